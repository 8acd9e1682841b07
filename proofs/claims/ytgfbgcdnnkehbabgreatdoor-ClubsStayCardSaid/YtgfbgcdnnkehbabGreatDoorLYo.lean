/- LYo: which motions are open. In plain Lean, no program in sight. -/
import Derived.Test.YtgfbgcdnnkehbabGreatDoorLY6
namespace Go.G
open Go Go.J
set_option linter.unusedSimpArgs false
set_option linter.unusedVariables false
theorem open_spec (a : Int) (st : Stays) (pd : List (ByteArray × Int)) (mo : Mots) (rf : List Int) (hl : mo.length ≤ 1000000) : m_club_books_open a st pd mo rf = some ((sortK (mo.map Prod.fst)).filter (openM mo)) := by
  unfold m_club_books_open m_slices_Sorted_string__maps_Keys_map_string_club_motion_string_club_motion_1
  rw [if_pos (by omega), Sort_K _ (by simp; omega), Option.bind_some, rangeM_filterMap _ (fun x => if openM mo x then some x else none) _ (by
    intro i x s hx hs
    have hi := (List.getElem?_eq_some_iff.1 hx).1
    rw [sortK_len] at hi
    simp only [List.length_map] at hi
    unfold m_club_books_open_l1
    rw [isOpen_spec, Option.bind_some]
    cases hm : openM mo x
    · simp
    · rw [ifB_true, appM_of (by simp; omega) (by omega)]; simp), Option.bind_some, fin_brk]
  rw [← List.filterMap_eq_filter]
  congr 2
theorem mo_len (l : List TAct) (at_ : Int) (hl : l.length ≤ 2000) : (booksOf l at_).mo.length ≤ 2000 := by
  have hc := cntIx_len at_ l 0
  have step : ∀ (s : Bk) (z : Int) (x : TAct), (stepX s z x).mo.length ≤ s.mo.length + 1 := by
    intro s z x
    unfold stepX
    split
    · unfold actB
      cases x.Kind == 1
      case true => simp only [cond_true]; omega
      cases x.Kind == 2
      case true => simp only [cond_true, cond_false]; omega
      cases x.Kind == 3
      case true => simp only [cond_true, cond_false]; omega
      cases x.Kind == 4
      case true => exact putM_len _ _ _
      simp only [cond_false]
      cases lkM s.mo x.Motion with
      | none => simp only; omega
      | some t =>
        simp only
        cases x.Kind == 5
        · cases x.Kind == 6
          · simp only [cond_false]; omega
          · exact putM_len _ _ _
        · exact putM_len _ _ _
    · simp only; omega
  have key : ∀ (t : List Int) (s : Bk), (t.foldl (stepB l) s).mo.length ≤ s.mo.length + t.length := by
    intro t
    induction t with
    | nil => intro s; simp
    | cons z t ih =>
      intro s
      rw [List.foldl_cons, List.length_cons]
      have h1 := ih (stepB l s z)
      have h2 : (stepB l s z).mo.length ≤ s.mo.length + 1 := by
        unfold stepB
        split
        · exact step _ _ _
        · omega
      omega
  have := key (cntIx at_ 0 l) ⟨[], [], [], []⟩
  simp only [List.length_nil] at this
  unfold booksOf
  omega
end Go.G
