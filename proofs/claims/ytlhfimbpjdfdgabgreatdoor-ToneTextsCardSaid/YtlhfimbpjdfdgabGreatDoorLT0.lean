/- LT0: strings cut at a byte: what strings.Split gives, as a plain recursion; joined again. In plain Lean, no program in sight. -/
import Derived.Test.YtlhfimbpjdfdgabGreatDoorL0
import Derived.Lib.SplitLaws
import Derived.Lib.Join
namespace Go.G
open Go Go.J
set_option linter.unusedSimpArgs false
set_option linter.unusedVariables false
abbrev BL := List UInt8
/-- cut at a byte -/
def spl (c : UInt8) : BL → List BL
  | [] => [[]]
  | b :: t => if b = c then [] :: spl c t else match spl c t with
    | [] => [[b]]
    | h :: r => (b :: h) :: r
theorem spl_ne (c : UInt8) : ∀ s, spl c s ≠ []
  | [] => by simp [spl]
  | b :: t => by
    unfold spl
    split
    · simp
    · split <;> simp
theorem index_cons1 (b c : UInt8) (l : BL) : Lib.index (b :: l) [c] = if b = c then 0 else if Lib.index l [c] == -1 then -1 else Lib.index l [c] + 1 := by
  rw [Lib.index]
  by_cases h : b = c
  · simp [List.isPrefixOf, h]
  · have : ([c] : BL).isPrefixOf (b :: l) = false := by simp [List.isPrefixOf, Ne.symm h]
    rw [this, if_neg h]; simp
theorem splitK_spl (c : UInt8) : ∀ s : BL, Lib.splitK [c] 0 (Lib.count s [c]) s = spl c s
  | [] => by rw [Lib.count_one]; rfl
  | b :: l => by
    have ih := splitK_spl c l
    have hix := index_cons1 b c l
    by_cases h : b = c
    · rw [if_pos h] at hix
      rw [h, Lib.count_cons_eq, Nat.add_comm, Lib.splitK]
      rw [h] at hix
      rw [hix, spl, if_pos rfl, ← ih]
      simp
    · rw [if_neg h] at hix
      rw [Lib.count_cons_ne b c l h, spl, if_neg h, ← ih]
      by_cases hm : Lib.index l [c] = -1
      · rw [Lib.count_miss hm, Lib.splitK, Lib.splitK]
      · rw [if_neg (by simpa using hm)] at hix
        have hge := Lib.index_ge l [c]
        obtain ⟨j, hj⟩ : ∃ j : Nat, Lib.index l [c] = j := ⟨(Lib.index l [c]).toNat, by omega⟩
        rw [Lib.count_hit (by simp) hj, Nat.add_comm 1, Lib.splitK, Lib.splitK, if_neg (by rw [hix]; simp; omega), if_neg (by simpa using hm), hix, hj]
        simp only
        rw [show ((j : Int) + 1).toNat = j + 1 by omega, Int.toNat_natCast]
        simp
theorem splitB_spl (c : UInt8) (s : ByteArray) : (Lib.splitB ⟨#[c]⟩ 0 (Lib.countB s ⟨#[c]⟩) s).map (·.data.toList) = spl c s.data.toList := by
  rw [Lib.splitB_data]
  exact splitK_spl c s.data.toList
def toB (l : BL) : ByteArray := ⟨l.toArray⟩
theorem toB_data (s : ByteArray) : toB s.data.toList = s := by cases s; rfl
theorem data_toB (l : BL) : (toB l).data.toList = l := rfl
theorem toB_inj {a b : BL} (h : toB a = toB b) : a = b := by have := congrArg (fun s : ByteArray => s.data.toList) h; exact this
theorem toB_size (l : BL) : (toB l).size = l.length := by simp [toB, ByteArray.size]
theorem map_toB_data (L : List ByteArray) : (L.map (·.data.toList)).map toB = L := by
  rw [List.map_map]
  exact (List.map_congr_left fun x _ => toB_data x).trans (List.map_id L)
theorem splitB_spl' (c : UInt8) (s : ByteArray) : Lib.splitB ⟨#[c]⟩ 0 (Lib.countB s ⟨#[c]⟩) s = (spl c s.data.toList).map toB := by
  rw [← splitB_spl, map_toB_data]
/-! joined again -/
def jn (c : UInt8) : List BL → BL
  | [] => []
  | [x] => x
  | x :: y :: r => x ++ c :: jn c (y :: r)
theorem jn_join (c : UInt8) : ∀ L : List BL, Lib.join L [c] = jn c L
  | [] => rfl
  | [x] => by rw [Lib.join_one]; rfl
  | x :: y :: r => by
    have ih := jn_join c (y :: r)
    rw [jn, ← ih]
    simp [Lib.join, List.intercalate]
theorem spl_app (c : UInt8) : ∀ (a b : BL), c ∉ a → spl c (a ++ c :: b) = a :: spl c b
  | [], b, _ => by simp [spl]
  | x :: a, b, h => by
    have hx : x ≠ c := fun e => h (by rw [e]; exact List.mem_cons_self ..)
    rw [List.cons_append, spl, if_neg hx, spl_app c a b fun hm => h (List.mem_cons_of_mem _ hm)]
theorem spl_none (c : UInt8) : ∀ (a : BL), c ∉ a → spl c a = [a]
  | [], _ => rfl
  | x :: a, h => by
    have hx : x ≠ c := fun e => h (by rw [e]; exact List.mem_cons_self ..)
    rw [spl, if_neg hx, spl_none c a fun hm => h (List.mem_cons_of_mem _ hm)]
theorem spl_mem (c : UInt8) : ∀ (s : BL) (x : BL), x ∈ spl c s → c ∉ x
  | [], x, h => by simp [spl] at h; rw [h]; simp
  | b :: t, x, h => by
    have ih := spl_mem c t
    unfold spl at h
    split at h
    · rcases List.mem_cons.1 h with h | h
      · rw [h]; simp
      · exact ih x h
    · rename_i hb
      split at h
      · simp only [List.mem_singleton] at h
        rw [h]; simpa using Ne.symm hb
      · rename_i hd r hs
        rcases List.mem_cons.1 h with h | h
        · rw [h]
          have := ih hd (by rw [hs]; exact List.mem_cons_self ..)
          simp only [List.mem_cons, not_or]
          exact ⟨Ne.symm hb, this⟩
        · exact ih x (by rw [hs]; exact List.mem_cons_of_mem _ h)
theorem jn_cons (c b : UInt8) (h : BL) (r : List BL) : jn c ((b :: h) :: r) = b :: jn c (h :: r) := by
  cases r <;> simp [jn]
theorem jn_nil_cons (c : UInt8) (L : List BL) (h : L ≠ []) : jn c ([] :: L) = c :: jn c L := by
  cases L with
  | nil => exact (h rfl).elim
  | cons y r => simp [jn]
theorem jn_spl (c : UInt8) : ∀ s : BL, jn c (spl c s) = s
  | [] => rfl
  | b :: t => by
    have ih := jn_spl c t
    unfold spl
    split
    · rename_i h
      rw [jn_nil_cons c _ (spl_ne c t), ih, h]
    · split
      · rename_i h; exact (spl_ne c t h).elim
      · rename_i hd r h
        rw [jn_cons, ← h, ih]
theorem spl_len (c : UInt8) : ∀ s : BL, (spl c s).length ≤ s.length + 1
  | [] => by simp [spl]
  | b :: t => by
    have ih := spl_len c t
    unfold spl
    split
    · simp; omega
    · split
      · simp
      · rename_i hd r h
        rw [h] at ih
        simp at ih ⊢; omega
/-- a text's lines: those that are ended, and what is left -/
theorem spl_end (c : UInt8) (a : BL) : spl c (a ++ [c]) = spl c a ++ [[]] := by
  induction a with
  | nil => simp [spl]
  | cons b t ih =>
    rw [List.cons_append, spl, ih, spl]
    split
    · simp
    · cases h : spl c t with
      | nil => exact (spl_ne c t h).elim
      | cons hd r => simp
end Go.G
