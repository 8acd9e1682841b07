/- J24: what may be a map's key. No program in sight. -/
import Derived.Test.YtfgekmoffcobaaaGreatDoorJ23
namespace Go.J
open Go Go.RowKit
set_option linter.unusedSimpArgs false
section
variable {P : Program} {T : TypeId}
theorem ba_dec (x y : ByteArray) : (x == y) = decide (x = y) := by
  rw [Bool.eq_iff_iff]; simp [ba_beq]
theorem keyF_str (h : P.underlying T = some .string) : KeyF P T (fun s : ByteArray => .string s) where
  chk := fun em k w => by
    have : ∀ n, (Instr.checkKey em (n + 1) T (.string k)).run P w = .ok () w := fun n => by simp [Instr.checkKey, run_underlying h]
    exact this 9999
  eq := fun x y w => by
    have h1 := run_equalIn_string (P := P) w 9999 T x y h
    rw [← beq_toListBytes, ba_dec] at h1
    simp [Op.equal, Op.maxDepth, h1]
  now := ⟨_, h, .inl fun x y => by simp only [Instr.sameNow]; rw [ba_dec]⟩
  same := fun k => by simp only [Instr.sameBits]; rw [ba_dec]; simp
theorem keyF_int {q : IntKind} (h : P.underlying T = some (.int q)) : KeyF P T (fun n : Int => .int q n) where
  chk := fun em k w => by
    have : ∀ n, (Instr.checkKey em (n + 1) T (.int q k)).run P w = .ok () w := fun n => by simp [Instr.checkKey, run_underlying h]
    exact this 9999
  eq := fun x y w => by
    have h1 := run_equalIn_int (P := P) w 9999 T q q x y h
    have e : (x == y) = decide (x = y) := by rw [Bool.eq_iff_iff]; simp
    rw [e] at h1
    simp [Op.equal, Op.maxDepth, h1]
  now := ⟨_, h, .inl fun x y => by
    simp only [Instr.sameNow, if_true]
    rw [show (x == y) = decide (x = y) by rw [Bool.eq_iff_iff]; simp]⟩
  same := fun k => by simp [Instr.sameBits]
theorem sb_agg (vs : List Value) (h : ∀ v, v ∈ vs → Instr.sameBits 9999 v v = true) : Instr.sameBits 10000 (.agg vs.toArray) (.agg vs.toArray) = true := by
  simp only [Instr.sameBits, beq_self_eq_true, Bool.true_and, List.all_eq_true]
  rintro ⟨a, b⟩ hab
  have : a = b ∧ a ∈ vs := by
    rw [List.mem_iff_getElem] at hab
    obtain ⟨i, hi, he⟩ := hab
    simp at he
    obtain ⟨rfl, rfl⟩ := he
    exact ⟨rfl, List.getElem_mem _⟩
  obtain ⟨rfl, hv⟩ := this
  exact h a hv
theorem keyF_agg {K : Type} [DecidableEq K] {R : Rep K} {fs : Array Field} (hu : P.underlying T = some (.struct fs)) (hchk : ∀ em k w, (Instr.checkKey em 10000 T (.agg (R.enc k).toArray)).run P w = .ok () w)
    (heq : ∀ x y : K, EqV P 10000 T (.agg (R.enc x).toArray) (.agg (R.enc y).toArray) (decide (x = y))) (hs : ∀ k v, v ∈ R.enc k → Instr.sameBits 9999 v v = true) : KeyF P T (fun k : K => .agg (R.enc k).toArray) where
  chk := hchk
  eq := fun x y w => by
    have h1 := heq x y w
    simp [Op.equal, Op.maxDepth, h1]
  now := ⟨_, hu, .inr fun _ _ => rfl⟩
  same := fun k => sb_agg _ (hs k)
end
theorem FactAt.map {es : List Ent} {K : Type} {kv : K → Value} [DecidableEq K] {b : Nat} {l : List (K × Value)} {mes : Array MapEntry} {mcl : Nat} (j : Nat) (h : nth es j = some (.obj (mapO kv b l mes mcl))) : FactAt es (MapAt kv b l mes mcl) := .obj j h
end Go.J
