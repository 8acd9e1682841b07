/- Facts on the types and functions. Written by program. -/
import Derived.Test.YtlkpfhdlfapfhabGreatDoorProg
import Derived.KernelRfl
import Derived.Test.YtlkpfhdlfapfhabGreatDoorM
namespace Go.Proofs.YtlkpfhdlfapfhabGreatDoor
open Go Go.J Go.G
set_option linter.unusedSimpArgs false
theorem ty3 : TyF Tryz.prog 3 false 1 8 [.int .i64 0] := TyF.mk' (z := .int .i64 0) Tryz.underlying3 rfl (by kernel_rfl) rfl
def R3 : Rep Int := ⟨3, 1, 8, fun x => [.int .i64 x], fun _ => rfl, fun x u hu => by simp only [List.mem_cons, List.mem_nil_iff, or_false] at hu; rcases hu with rfl <;> rfl, by decide⟩
theorem ty4 : TyF Tryz.prog 4 false 1 1 [.bool false] := TyF.mk' (z := .bool false) Tryz.underlying4 rfl (by kernel_rfl) rfl
def R4 : Rep Bool := ⟨4, 1, 1, fun x => [.bool x], fun _ => rfl, fun x u hu => by simp only [List.mem_cons, List.mem_nil_iff, or_false] at hu; rcases hu with rfl <;> rfl, by decide⟩
theorem ty9 : TyF Tryz.prog 9 false 1 16 [.string ByteArray.empty] := TyF.mk' (z := .string ByteArray.empty) Tryz.underlying9 rfl (by kernel_rfl) rfl
def R9 : Rep ByteArray := ⟨9, 1, 16, fun x => [.string x], fun _ => rfl, fun x u hu => by simp only [List.mem_cons, List.mem_nil_iff, or_false] at hu; rcases hu with rfl <;> rfl, by decide⟩
theorem ty22 : TyF Tryz.prog 22 false 1 24 [.slice none 0 0] := TyF.mk' (z := .slice none 0 0) Tryz.underlying22 rfl (by kernel_rfl) rfl
theorem ty25 : TyF Tryz.prog 25 true 2 32 [.slice none 0 0, .int .i64 0] := TyF.mk' (z := .agg #[.slice none 0 0, .int .i64 0]) Tryz.underlying25 rfl (by kernel_rfl) rfl
theorem ty26 : TyF Tryz.prog 26 false 1 24 [.slice none 0 0] := TyF.mk' (z := .slice none 0 0) Tryz.underlying26 rfl (by kernel_rfl) rfl
theorem ty28 : TyF Tryz.prog 28 true 5 56 [.slice none 0 0, .int .i64 0, .int .i64 0, .int .i64 0, .int .i64 0] := TyF.mk' (z := .agg #[.slice none 0 0, .int .i64 0, .int .i64 0, .int .i64 0, .int .i64 0]) Tryz.underlying28 rfl (by kernel_rfl) rfl
theorem ty30 : TyF Tryz.prog 30 false 1 24 [.slice none 0 0] := TyF.mk' (z := .slice none 0 0) Tryz.underlying30 rfl (by kernel_rfl) rfl
theorem ty31 : TyF Tryz.prog 31 false 1 8 [.int .i64 0] := TyF.mk' (z := .int .i64 0) Tryz.underlying31 rfl (by kernel_rfl) rfl
def R31 : Rep Int := ⟨31, 1, 8, fun x => [.int .i64 x], fun _ => rfl, fun x u hu => by simp only [List.mem_cons, List.mem_nil_iff, or_false] at hu; rcases hu with rfl <;> rfl, by decide⟩
theorem ty38 : TyF Tryz.prog 38 true 4 64 [.string ByteArray.empty, .string ByteArray.empty, .int .i64 0, .slice none 0 0] := TyF.mk' (z := .agg #[.string ByteArray.empty, .string ByteArray.empty, .int .i64 0, .slice none 0 0]) Tryz.underlying38 rfl (by kernel_rfl) rfl
theorem ty45 : TyF Tryz.prog 45 true 2 16 [.int .i64 0, .int .i64 0] := TyF.mk' (z := .agg #[.int .i64 0, .int .i64 0]) Tryz.underlying45 rfl (by kernel_rfl) rfl
def R45 : Rep TWindow := ⟨45, 2, 16, fun x => [.int .i64 x.From, .int .i64 x.To], fun _ => rfl, fun x u hu => by simp only [List.mem_cons, List.mem_nil_iff, or_false] at hu; rcases hu with rfl | rfl <;> rfl, by decide⟩
theorem ty47 : TyF Tryz.prog 47 true 3 32 [.string ByteArray.empty, .int .i64 0, .int .i64 0] := TyF.mk' (z := .agg #[.string ByteArray.empty, .int .i64 0, .int .i64 0]) Tryz.underlying47 rfl (by kernel_rfl) rfl
def R47 : Rep TTimed := ⟨47, 3, 32, fun x => [.string x.Key, .int .i64 x.Time.From, .int .i64 x.Time.To], fun _ => rfl, fun x u hu => by simp only [List.mem_cons, List.mem_nil_iff, or_false] at hu; rcases hu with rfl | rfl | rfl <;> rfl, by decide⟩
theorem ty60 : TyF Tryz.prog 60 true 3 40 [.int .i64 0, .int .i64 0, .slice none 0 0] := TyF.mk' (z := .agg #[.int .i64 0, .int .i64 0, .slice none 0 0]) Tryz.underlying60 rfl (by kernel_rfl) rfl
theorem ty78 : TyF Tryz.prog 78 true 5 40 [.int .i64 0, .int .i64 0, .int .i64 0, .int .i64 0, .bool false] := TyF.mk' (z := .agg #[.int .i64 0, .int .i64 0, .int .i64 0, .int .i64 0, .bool false]) Tryz.underlying78 rfl (by kernel_rfl) rfl
def R78 : Rep TBar := ⟨78, 5, 40, fun x => [.int .i64 x.Beats, .int .i64 x.Unit, .int .i64 x.Close, .int .i64 x.Ending, .bool x.Open], fun _ => rfl, fun x u hu => by simp only [List.mem_cons, List.mem_nil_iff, or_false] at hu; rcases hu with rfl | rfl | rfl | rfl | rfl <;> rfl, by decide⟩
theorem ty83 : TyF Tryz.prog 83 true 3 24 [.int .i64 0, .int .i64 0, .int .i64 0] := TyF.mk' (z := .agg #[.int .i64 0, .int .i64 0, .int .i64 0]) Tryz.underlying83 rfl (by kernel_rfl) rfl
def R83 : Rep TChord := ⟨83, 3, 24, fun x => [.int .i64 x.Root, .int .i64 x.Kind, .int .i64 x.Turn], fun _ => rfl, fun x u hu => by simp only [List.mem_cons, List.mem_nil_iff, or_false] at hu; rcases hu with rfl | rfl | rfl <;> rfl, by decide⟩
theorem ty86 : TyF Tryz.prog 86 true 3 32 [.int .i64 0, .string ByteArray.empty, .bool false] := TyF.mk' (z := .agg #[.int .i64 0, .string ByteArray.empty, .bool false]) Tryz.underlying86 rfl (by kernel_rfl) rfl
def R86 : Rep TCame := ⟨86, 3, 32, fun x => [.int .i64 x.At, .string x.Singer, .bool x.Left], fun _ => rfl, fun x u hu => by simp only [List.mem_cons, List.mem_nil_iff, or_false] at hu; rcases hu with rfl | rfl | rfl <;> rfl, by decide⟩
theorem ty92 : TyF Tryz.prog 92 true 10 112 [.string ByteArray.empty, .int .i64 0, .int .i64 0, .int .i64 0, .string ByteArray.empty, .string ByteArray.empty, .int .i64 0, .bool false, .string ByteArray.empty, .int .i64 0] := TyF.mk' (z := .agg #[.string ByteArray.empty, .int .i64 0, .int .i64 0, .int .i64 0, .string ByteArray.empty, .string ByteArray.empty, .int .i64 0, .bool false, .string ByteArray.empty, .int .i64 0]) Tryz.underlying92 rfl (by kernel_rfl) rfl
def R92 : Rep TAct := ⟨92, 10, 112, fun x => [.string x.Site, .int .i64 x.No, .int .i64 x.At, .int .i64 x.Kind, .string x.Who, .string x.Motion, .int .i64 x.Cents, .bool x.Yes, .string x.Of, .int .i64 x.Other], fun _ => rfl, fun x u hu => by simp only [List.mem_cons, List.mem_nil_iff, or_false] at hu; rcases hu with rfl | rfl | rfl | rfl | rfl | rfl | rfl | rfl | rfl | rfl <;> rfl, by decide⟩
theorem ty93 : TyF Tryz.prog 93 false 1 24 [.slice none 0 0] := TyF.mk' (z := .slice none 0 0) Tryz.underlying93 rfl (by kernel_rfl) rfl
theorem ty110 : TyF Tryz.prog 110 false 1 8 [.map none] := TyF.mk' (z := .map none) Tryz.underlying110 rfl (by kernel_rfl) rfl
theorem ty137 : TyF Tryz.prog 137 false 1 8 [.map none] := TyF.mk' (z := .map none) Tryz.underlying137 rfl (by kernel_rfl) rfl
theorem ty144 : TyF Tryz.prog 144 false 1 8 [.map none] := TyF.mk' (z := .map none) Tryz.underlying144 rfl (by kernel_rfl) rfl
theorem ty146 : TyF Tryz.prog 146 false 1 8 [.map none] := TyF.mk' (z := .map none) Tryz.underlying146 rfl (by kernel_rfl) rfl
theorem ty148 : TyF Tryz.prog 148 true 5 56 [.int .i64 0, .map none, .map none, .map none, .slice none 0 0] := TyF.mk' (z := .agg #[.int .i64 0, .map none, .map none, .map none, .slice none 0 0]) Tryz.underlying148 rfl (by kernel_rfl) rfl
theorem ty154 : TyF Tryz.prog 154 true 3 24 [.int .i64 0, .int .i64 0, .int .i64 0] := TyF.mk' (z := .agg #[.int .i64 0, .int .i64 0, .int .i64 0]) Tryz.underlying154 rfl (by kernel_rfl) rfl
def R154 : Rep Tpiece_repeat := ⟨154, 3, 24, fun x => [.int .i64 x.from_, .int .i64 x.to_, .int .i64 x.times], fun _ => rfl, fun x u hu => by simp only [List.mem_cons, List.mem_nil_iff, or_false] at hu; rcases hu with rfl | rfl | rfl <;> rfl, by decide⟩
theorem ty167 : TyF Tryz.prog 167 true 3 24 [.int .i64 0, .int .i64 0, .int .i64 0] := TyF.mk' (z := .agg #[.int .i64 0, .int .i64 0, .int .i64 0]) Tryz.underlying167 rfl (by kernel_rfl) rfl
def R167 : Rep Tclub_stay := ⟨167, 3, 24, fun x => [.int .i64 x.since, .int .i64 x.till, .int .i64 x.cents], fun _ => rfl, fun x u hu => by simp only [List.mem_cons, List.mem_nil_iff, or_false] at hu; rcases hu with rfl | rfl | rfl <;> rfl, by decide⟩
theorem ty194 : TyF Tryz.prog 194 false 1 8 [.map none] := TyF.mk' (z := .map none) Tryz.underlying194 rfl (by kernel_rfl) rfl
theorem ty196 : TyF Tryz.prog 196 true 2 24 [.string ByteArray.empty, .int .i64 0] := TyF.mk' (z := .agg #[.string ByteArray.empty, .int .i64 0]) Tryz.underlying196 rfl (by kernel_rfl) rfl
def R196 : Rep Tclub_own := ⟨196, 2, 24, fun x => [.string x.site, .int .i64 x.no], fun _ => rfl, fun x u hu => by simp only [List.mem_cons, List.mem_nil_iff, or_false] at hu; rcases hu with rfl | rfl <;> rfl, by decide⟩
theorem ty203 : TyF Tryz.prog 203 true 3 40 [.bool false, .map none, .slice none 0 0] := TyF.mk' (z := .agg #[.bool false, .map none, .slice none 0 0]) Tryz.underlying203 rfl (by kernel_rfl) rfl
theorem ty218 : TyF Tryz.prog 218 true 5 5 [.bool false, .bool false, .bool false, .bool false, .bool false] := TyF.mk' (z := .agg #[.bool false, .bool false, .bool false, .bool false, .bool false]) Tryz.underlying218 rfl (by kernel_rfl) rfl
def R218 : Rep Tclub_uses := ⟨218, 5, 5, fun x => [.bool x.who, .bool x.motion, .bool x.cents, .bool x.yes, .bool x.undo], fun _ => rfl, fun x u hu => by simp only [List.mem_cons, List.mem_nil_iff, or_false] at hu; rcases hu with rfl | rfl | rfl | rfl | rfl <;> rfl, by decide⟩
def N22 : Nst (List Int) SV := ⟨⟨22, 1, 24, fun p => [p.2.v], fun _ => rfl, fun p u hu => by simp only [List.mem_cons, List.mem_nil_iff, or_false] at hu; rcases hu with rfl <;> rfl, by decide⟩, fun p w => RdS R3 (SV.v p.2) p.1 w⟩
def N38 : Nst TItem SV := ⟨⟨38, 4, 64, fun p => [.string p.1.Key, .string p.1.Places, .int .i64 p.1.Long, p.2.v], fun _ => rfl, fun p u hu => by simp only [List.mem_cons, List.mem_nil_iff, or_false] at hu; rcases hu with rfl | rfl | rfl | rfl <;> rfl, by decide⟩, fun p w => RdS R9 (SV.v p.2) p.1.Parts w⟩
theorem eqst196_ (d : Nat) (x y : Tclub_own) : EqV Tryz.prog (d + 2) 196 (.agg (R196.enc x).toArray) (.agg (R196.enc y).toArray) (decide (x = y)) := by
  have h : ((x.site == y.site) && ((x.no == y.no) && true)) = decide (x = y) := by rw [Bool.eq_iff_iff]; cases x; cases y; simp [ba_beq]
  rw [← h]
  exact eqv_struct Tryz.underlying196 (by kernel_rfl) (eqf_cons (.string x.site) (.string y.site) (by decide) (fun _ => by kernel_rfl) (fun _ => by kernel_rfl) (eqv_str Tryz.underlying9 _ _) (eqf_cons (.int .i64 x.no) (.int .i64 y.no) (by decide) (fun _ => by kernel_rfl) (fun _ => by kernel_rfl) (eqv_int Tryz.underlying3 _ _) eqf_nil))
theorem eqst196 (x y : Tclub_own) : EqV Tryz.prog 10000 196 (.agg (R196.enc x).toArray) (.agg (R196.enc y).toArray) (decide (x = y)) := eqst196_ 9998 x y
@[reducible] def vv3 : Int → Value := fun x => .int .i64 x
@[reducible] def vv4 : Bool → Value := fun x => .bool x
@[reducible] def kv9 : ByteArray → Value := fun x => .string x
theorem keyF9 : KeyF Tryz.prog 9 kv9 := keyF_str Tryz.underlying9
@[reducible] def kv196 : Tclub_own → Value := fun x => .agg (R196.enc x).toArray
theorem keyF196 : KeyF Tryz.prog 196 kv196 := keyF_agg Tryz.underlying196 (fun _ _ _ => by kernel_rfl) eqst196 (fun k v hv => by simp only [R196, List.mem_cons, List.not_mem_nil, or_false] at hv; rcases hv with rfl | rfl <;> simp [Instr.sameBits, ba_dec])
@[reducible] def Fh201 : (Nat × Nat × Array MapEntry × Nat × SV) → Nat := fun q => q.1
def Fe201 : (Bool × (List (ByteArray × Bool)) × (List ByteArray)) → (Nat × Nat × Array MapEntry × Nat × SV) → List Ent := fun t q => [.box q.1 203 [.bool t.1, .map (some q.2.1), q.2.2.2.2.v], .obj (mapO kv9 q.2.1 (mpV vv4 t.2.1) q.2.2.1 q.2.2.2.1), .row R9 (SV.v q.2.2.2.2) t.2.2]
theorem fro201 : ∀ t q F, Ent.ro F ∉ Fe201 t q := by intro t q F h; simp [Fe201] at h
theorem fl25_0 : FldF Tryz.prog 25 0 0 := fun _ _ => by kernel_rfl
theorem fl25_1 : FldF Tryz.prog 25 1 1 := fun _ _ => by kernel_rfl
theorem fl28_0 : FldF Tryz.prog 28 0 0 := fun _ _ => by kernel_rfl
theorem fl28_1 : FldF Tryz.prog 28 1 1 := fun _ _ => by kernel_rfl
theorem fl28_2 : FldF Tryz.prog 28 2 2 := fun _ _ => by kernel_rfl
theorem fl28_3 : FldF Tryz.prog 28 3 3 := fun _ _ => by kernel_rfl
theorem fl28_4 : FldF Tryz.prog 28 4 4 := fun _ _ => by kernel_rfl
theorem fl38_0 : FldF Tryz.prog 38 0 0 := fun _ _ => by kernel_rfl
theorem fl38_1 : FldF Tryz.prog 38 1 1 := fun _ _ => by kernel_rfl
theorem fl38_2 : FldF Tryz.prog 38 2 2 := fun _ _ => by kernel_rfl
theorem fl38_3 : FldF Tryz.prog 38 3 3 := fun _ _ => by kernel_rfl
theorem fl45_0 : FldF Tryz.prog 45 0 0 := fun _ _ => by kernel_rfl
theorem fl45_1 : FldF Tryz.prog 45 1 1 := fun _ _ => by kernel_rfl
theorem fl60_0 : FldF Tryz.prog 60 0 0 := fun _ _ => by kernel_rfl
theorem fl60_1 : FldF Tryz.prog 60 1 1 := fun _ _ => by kernel_rfl
theorem fl60_2 : FldF Tryz.prog 60 2 2 := fun _ _ => by kernel_rfl
theorem fl78_0 : FldF Tryz.prog 78 0 0 := fun _ _ => by kernel_rfl
theorem fl78_1 : FldF Tryz.prog 78 1 1 := fun _ _ => by kernel_rfl
theorem fl78_2 : FldF Tryz.prog 78 2 2 := fun _ _ => by kernel_rfl
theorem fl78_3 : FldF Tryz.prog 78 3 3 := fun _ _ => by kernel_rfl
theorem fl78_4 : FldF Tryz.prog 78 4 4 := fun _ _ => by kernel_rfl
theorem fl83_0 : FldF Tryz.prog 83 0 0 := fun _ _ => by kernel_rfl
theorem fl83_1 : FldF Tryz.prog 83 1 1 := fun _ _ => by kernel_rfl
theorem fl83_2 : FldF Tryz.prog 83 2 2 := fun _ _ => by kernel_rfl
theorem fl86_0 : FldF Tryz.prog 86 0 0 := fun _ _ => by kernel_rfl
theorem fl86_1 : FldF Tryz.prog 86 1 1 := fun _ _ => by kernel_rfl
theorem fl86_2 : FldF Tryz.prog 86 2 2 := fun _ _ => by kernel_rfl
theorem fl92_0 : FldF Tryz.prog 92 0 0 := fun _ _ => by kernel_rfl
theorem fl92_1 : FldF Tryz.prog 92 1 1 := fun _ _ => by kernel_rfl
theorem fl92_2 : FldF Tryz.prog 92 2 2 := fun _ _ => by kernel_rfl
theorem fl92_3 : FldF Tryz.prog 92 3 3 := fun _ _ => by kernel_rfl
theorem fl92_4 : FldF Tryz.prog 92 4 4 := fun _ _ => by kernel_rfl
theorem fl92_5 : FldF Tryz.prog 92 5 5 := fun _ _ => by kernel_rfl
theorem fl92_6 : FldF Tryz.prog 92 6 6 := fun _ _ => by kernel_rfl
theorem fl92_7 : FldF Tryz.prog 92 7 7 := fun _ _ => by kernel_rfl
theorem fl92_8 : FldF Tryz.prog 92 8 8 := fun _ _ => by kernel_rfl
theorem fl92_9 : FldF Tryz.prog 92 9 9 := fun _ _ => by kernel_rfl
theorem fl148_1 : FldF Tryz.prog 148 1 1 := fun _ _ => by kernel_rfl
theorem fl148_2 : FldF Tryz.prog 148 2 2 := fun _ _ => by kernel_rfl
theorem fl148_3 : FldF Tryz.prog 148 3 3 := fun _ _ => by kernel_rfl
theorem fl148_4 : FldF Tryz.prog 148 4 4 := fun _ _ => by kernel_rfl
theorem fl154_0 : FldF Tryz.prog 154 0 0 := fun _ _ => by kernel_rfl
theorem fl154_1 : FldF Tryz.prog 154 1 1 := fun _ _ => by kernel_rfl
theorem fl154_2 : FldF Tryz.prog 154 2 2 := fun _ _ => by kernel_rfl
theorem fl167_1 : FldF Tryz.prog 167 1 1 := fun _ _ => by kernel_rfl
theorem fl203_0 : FldF Tryz.prog 203 0 0 := fun _ _ => by kernel_rfl
theorem fl203_1 : FldF Tryz.prog 203 1 1 := fun _ _ => by kernel_rfl
theorem fl203_2 : FldF Tryz.prog 203 2 2 := fun _ _ => by kernel_rfl
theorem fl218_0 : FldF Tryz.prog 218 0 0 := fun _ _ => by kernel_rfl
theorem fl218_1 : FldF Tryz.prog 218 1 1 := fun _ _ => by kernel_rfl
theorem fl218_2 : FldF Tryz.prog 218 2 2 := fun _ _ => by kernel_rfl
theorem fl218_3 : FldF Tryz.prog 218 3 3 := fun _ _ => by kernel_rfl
theorem fl218_4 : FldF Tryz.prog 218 4 4 := fun _ _ => by kernel_rfl
theorem cf4 : ∀ args w, (callFunc 4 args).run Tryz.prog w = .ok (.enter 4 args) w := fun _ _ => by kernel_rfl
theorem cf5 : ∀ args w, (callFunc 5 args).run Tryz.prog w = .ok (.enter 5 args) w := fun _ _ => by kernel_rfl
theorem cf6 : ∀ args w, (callFunc 6 args).run Tryz.prog w = .ok (.enter 6 args) w := fun _ _ => by kernel_rfl
theorem cf7 : ∀ args w, (callFunc 7 args).run Tryz.prog w = .ok (.enter 7 args) w := fun _ _ => by kernel_rfl
theorem cf8 : ∀ args w, (callFunc 8 args).run Tryz.prog w = .ok (.enter 8 args) w := fun _ _ => by kernel_rfl
theorem cf9 : ∀ args w, (callFunc 9 args).run Tryz.prog w = .ok (.enter 9 args) w := fun _ _ => by kernel_rfl
theorem cf10 : ∀ args w, (callFunc 10 args).run Tryz.prog w = .ok (.enter 10 args) w := fun _ _ => by kernel_rfl
theorem cf11 : ∀ args w, (callFunc 11 args).run Tryz.prog w = .ok (.enter 11 args) w := fun _ _ => by kernel_rfl
theorem cf12 : ∀ args w, (callFunc 12 args).run Tryz.prog w = .ok (.enter 12 args) w := fun _ _ => by kernel_rfl
theorem cf13 : ∀ args w, (callFunc 13 args).run Tryz.prog w = .ok (.enter 13 args) w := fun _ _ => by kernel_rfl
theorem cf14 : ∀ args w, (callFunc 14 args).run Tryz.prog w = .ok (.enter 14 args) w := fun _ _ => by kernel_rfl
theorem cf15 : ∀ args w, (callFunc 15 args).run Tryz.prog w = .ok (.enter 15 args) w := fun _ _ => by kernel_rfl
theorem cf16 : ∀ args w, (callFunc 16 args).run Tryz.prog w = .ok (.enter 16 args) w := fun _ _ => by kernel_rfl
theorem cf17 : ∀ args w, (callFunc 17 args).run Tryz.prog w = .ok (.enter 17 args) w := fun _ _ => by kernel_rfl
theorem cf18 : ∀ args w, (callFunc 18 args).run Tryz.prog w = .ok (.enter 18 args) w := fun _ _ => by kernel_rfl
theorem cf19 : ∀ args w, (callFunc 19 args).run Tryz.prog w = .ok (.enter 19 args) w := fun _ _ => by kernel_rfl
theorem cf20 : ∀ args w, (callFunc 20 args).run Tryz.prog w = .ok (.enter 20 args) w := fun _ _ => by kernel_rfl
theorem cf21 : ∀ args w, (callFunc 21 args).run Tryz.prog w = .ok (.enter 21 args) w := fun _ _ => by kernel_rfl
theorem cf22 : ∀ args w, (callFunc 22 args).run Tryz.prog w = .ok (.enter 22 args) w := fun _ _ => by kernel_rfl
theorem cf23 : ∀ args w, (callFunc 23 args).run Tryz.prog w = .ok (.enter 23 args) w := fun _ _ => by kernel_rfl
theorem cf24 : ∀ args w, (callFunc 24 args).run Tryz.prog w = .ok (.enter 24 args) w := fun _ _ => by kernel_rfl
theorem cf25 : ∀ args w, (callFunc 25 args).run Tryz.prog w = .ok (.enter 25 args) w := fun _ _ => by kernel_rfl
theorem cf26 : ∀ args w, (callFunc 26 args).run Tryz.prog w = .ok (.enter 26 args) w := fun _ _ => by kernel_rfl
theorem cf27 : ∀ args w, (callFunc 27 args).run Tryz.prog w = .ok (.enter 27 args) w := fun _ _ => by kernel_rfl
theorem cf28 : ∀ args w, (callFunc 28 args).run Tryz.prog w = .ok (.enter 28 args) w := fun _ _ => by kernel_rfl
theorem cf29 : ∀ args w, (callFunc 29 args).run Tryz.prog w = .ok (.enter 29 args) w := fun _ _ => by kernel_rfl
theorem cf30 : ∀ args w, (callFunc 30 args).run Tryz.prog w = .ok (.enter 30 args) w := fun _ _ => by kernel_rfl
theorem cf31 : ∀ args w, (callFunc 31 args).run Tryz.prog w = .ok (.enter 31 args) w := fun _ _ => by kernel_rfl
theorem cf32 : ∀ args w, (callFunc 32 args).run Tryz.prog w = .ok (.enter 32 args) w := fun _ _ => by kernel_rfl
theorem cf33 : ∀ args w, (callFunc 33 args).run Tryz.prog w = .ok (.enter 33 args) w := fun _ _ => by kernel_rfl
theorem cf34 : ∀ args w, (callFunc 34 args).run Tryz.prog w = .ok (.enter 34 args) w := fun _ _ => by kernel_rfl
theorem cf35 : ∀ args w, (callFunc 35 args).run Tryz.prog w = .ok (.enter 35 args) w := fun _ _ => by kernel_rfl
theorem cf36 : ∀ args w, (callFunc 36 args).run Tryz.prog w = .ok (.enter 36 args) w := fun _ _ => by kernel_rfl
theorem cf37 : ∀ args w, (callFunc 37 args).run Tryz.prog w = .ok (.enter 37 args) w := fun _ _ => by kernel_rfl
theorem cf38 : ∀ args w, (callFunc 38 args).run Tryz.prog w = .ok (.enter 38 args) w := fun _ _ => by kernel_rfl
theorem cf39 : ∀ args w, (callFunc 39 args).run Tryz.prog w = .ok (.enter 39 args) w := fun _ _ => by kernel_rfl
theorem cf40 : ∀ args w, (callFunc 40 args).run Tryz.prog w = .ok (.enter 40 args) w := fun _ _ => by kernel_rfl
theorem cf41 : ∀ args w, (callFunc 41 args).run Tryz.prog w = .ok (.enter 41 args) w := fun _ _ => by kernel_rfl
theorem cf42 : ∀ args w, (callFunc 42 args).run Tryz.prog w = .ok (.enter 42 args) w := fun _ _ => by kernel_rfl
theorem cf43 : ∀ args w, (callFunc 43 args).run Tryz.prog w = .ok (.enter 43 args) w := fun _ _ => by kernel_rfl
theorem cf44 : ∀ args w, (callFunc 44 args).run Tryz.prog w = .ok (.enter 44 args) w := fun _ _ => by kernel_rfl
theorem cf45 : ∀ args w, (callFunc 45 args).run Tryz.prog w = .ok (.enter 45 args) w := fun _ _ => by kernel_rfl
theorem cf46 : ∀ args w, (callFunc 46 args).run Tryz.prog w = .ok (.enter 46 args) w := fun _ _ => by kernel_rfl
theorem cf47 : ∀ args w, (callFunc 47 args).run Tryz.prog w = .ok (.enter 47 args) w := fun _ _ => by kernel_rfl
theorem cf48 : ∀ args w, (callFunc 48 args).run Tryz.prog w = .ok (.enter 48 args) w := fun _ _ => by kernel_rfl
theorem cf49 : ∀ args w, (callFunc 49 args).run Tryz.prog w = .ok (.enter 49 args) w := fun _ _ => by kernel_rfl
theorem cf50 : ∀ args w, (callFunc 50 args).run Tryz.prog w = .ok (.enter 50 args) w := fun _ _ => by kernel_rfl
theorem cf51 : ∀ args w, (callFunc 51 args).run Tryz.prog w = .ok (.enter 51 args) w := fun _ _ => by kernel_rfl
theorem cf52 : ∀ args w, (callFunc 52 args).run Tryz.prog w = .ok (.enter 52 args) w := fun _ _ => by kernel_rfl
theorem cf53 : ∀ args w, (callFunc 53 args).run Tryz.prog w = .ok (.enter 53 args) w := fun _ _ => by kernel_rfl
theorem cf54 : ∀ args w, (callFunc 54 args).run Tryz.prog w = .ok (.enter 54 args) w := fun _ _ => by kernel_rfl
theorem cf55 : ∀ args w, (callFunc 55 args).run Tryz.prog w = .ok (.enter 55 args) w := fun _ _ => by kernel_rfl
theorem cf56 : ∀ args w, (callFunc 56 args).run Tryz.prog w = .ok (.enter 56 args) w := fun _ _ => by kernel_rfl
theorem cf57 : ∀ args w, (callFunc 57 args).run Tryz.prog w = .ok (.enter 57 args) w := fun _ _ => by kernel_rfl
theorem cf58 : ∀ args w, (callFunc 58 args).run Tryz.prog w = .ok (.enter 58 args) w := fun _ _ => by kernel_rfl
theorem cf59 : ∀ args w, (callFunc 59 args).run Tryz.prog w = .ok (.enter 59 args) w := fun _ _ => by kernel_rfl
theorem cf60 : ∀ args w, (callFunc 60 args).run Tryz.prog w = .ok (.enter 60 args) w := fun _ _ => by kernel_rfl
theorem cf61 : ∀ args w, (callFunc 61 args).run Tryz.prog w = .ok (.enter 61 args) w := fun _ _ => by kernel_rfl
theorem cf62 : ∀ args w, (callFunc 62 args).run Tryz.prog w = .ok (.enter 62 args) w := fun _ _ => by kernel_rfl
theorem cf63 : ∀ args w, (callFunc 63 args).run Tryz.prog w = .ok (.enter 63 args) w := fun _ _ => by kernel_rfl
theorem cf64 : ∀ args w, (callFunc 64 args).run Tryz.prog w = .ok (.enter 64 args) w := fun _ _ => by kernel_rfl
theorem cf65 : ∀ args w, (callFunc 65 args).run Tryz.prog w = .ok (.enter 65 args) w := fun _ _ => by kernel_rfl
theorem cf66 : ∀ args w, (callFunc 66 args).run Tryz.prog w = .ok (.enter 66 args) w := fun _ _ => by kernel_rfl
theorem cf67 : ∀ args w, (callFunc 67 args).run Tryz.prog w = .ok (.enter 67 args) w := fun _ _ => by kernel_rfl
theorem cf68 : ∀ args w, (callFunc 68 args).run Tryz.prog w = .ok (.enter 68 args) w := fun _ _ => by kernel_rfl
theorem cf69 : ∀ args w, (callFunc 69 args).run Tryz.prog w = .ok (.enter 69 args) w := fun _ _ => by kernel_rfl
theorem cf70 : ∀ args w, (callFunc 70 args).run Tryz.prog w = .ok (.enter 70 args) w := fun _ _ => by kernel_rfl
theorem cf71 : ∀ args w, (callFunc 71 args).run Tryz.prog w = .ok (.enter 71 args) w := fun _ _ => by kernel_rfl
theorem cf72 : ∀ args w, (callFunc 72 args).run Tryz.prog w = .ok (.enter 72 args) w := fun _ _ => by kernel_rfl
theorem cf73 : ∀ args w, (callFunc 73 args).run Tryz.prog w = .ok (.enter 73 args) w := fun _ _ => by kernel_rfl
theorem cf74 : ∀ args w, (callFunc 74 args).run Tryz.prog w = .ok (.enter 74 args) w := fun _ _ => by kernel_rfl
theorem cf75 : ∀ args w, (callFunc 75 args).run Tryz.prog w = .ok (.enter 75 args) w := fun _ _ => by kernel_rfl
theorem cf76 : ∀ args w, (callFunc 76 args).run Tryz.prog w = .ok (.enter 76 args) w := fun _ _ => by kernel_rfl
theorem cf77 : ∀ args w, (callFunc 77 args).run Tryz.prog w = .ok (.enter 77 args) w := fun _ _ => by kernel_rfl
theorem cf78 : ∀ args w, (callFunc 78 args).run Tryz.prog w = .ok (.enter 78 args) w := fun _ _ => by kernel_rfl
theorem cf79 : ∀ args w, (callFunc 79 args).run Tryz.prog w = .ok (.enter 79 args) w := fun _ _ => by kernel_rfl
theorem cf80 : ∀ args w, (callFunc 80 args).run Tryz.prog w = .ok (.enter 80 args) w := fun _ _ => by kernel_rfl
theorem cf82 : ∀ args w, (callFunc 82 args).run Tryz.prog w = .ok (.enter 82 args) w := fun _ _ => by kernel_rfl
theorem cf83 : ∀ args w, (callFunc 83 args).run Tryz.prog w = .ok (.enter 83 args) w := fun _ _ => by kernel_rfl
theorem cf84 : ∀ args w, (callFunc 84 args).run Tryz.prog w = .ok (.enter 84 args) w := fun _ _ => by kernel_rfl
theorem cf85 : ∀ args w, (callFunc 85 args).run Tryz.prog w = .ok (.enter 85 args) w := fun _ _ => by kernel_rfl
theorem cf86 : ∀ args w, (callFunc 86 args).run Tryz.prog w = .ok (.enter 86 args) w := fun _ _ => by kernel_rfl
theorem cf87 : ∀ args w, (callFunc 87 args).run Tryz.prog w = .ok (.enter 87 args) w := fun _ _ => by kernel_rfl
theorem cf88 : ∀ args w, (callFunc 88 args).run Tryz.prog w = .ok (.enter 88 args) w := fun _ _ => by kernel_rfl
theorem cf89 : ∀ args w, (callFunc 89 args).run Tryz.prog w = .ok (.enter 89 args) w := fun _ _ => by kernel_rfl
theorem cf90 : ∀ args w, (callFunc 90 args).run Tryz.prog w = .ok (.enter 90 args) w := fun _ _ => by kernel_rfl
theorem cf91 : ∀ args w, (callFunc 91 args).run Tryz.prog w = .ok (.enter 91 args) w := fun _ _ => by kernel_rfl
theorem cf92 : ∀ args w, (callFunc 92 args).run Tryz.prog w = .ok (.enter 92 args) w := fun _ _ => by kernel_rfl
theorem cf93 : ∀ args w, (callFunc 93 args).run Tryz.prog w = .ok (.enter 93 args) w := fun _ _ => by kernel_rfl
theorem cf94 : ∀ args w, (callFunc 94 args).run Tryz.prog w = .ok (.enter 94 args) w := fun _ _ => by kernel_rfl
theorem cf95 : ∀ args w, (callFunc 95 args).run Tryz.prog w = .ok (.enter 95 args) w := fun _ _ => by kernel_rfl
theorem cf96 : ∀ args w, (callFunc 96 args).run Tryz.prog w = .ok (.enter 96 args) w := fun _ _ => by kernel_rfl
theorem cf98 : ∀ args w, (callFunc 98 args).run Tryz.prog w = .ok (.enter 98 args) w := fun _ _ => by kernel_rfl
theorem cf99 : ∀ args w, (callFunc 99 args).run Tryz.prog w = .ok (.enter 99 args) w := fun _ _ => by kernel_rfl
theorem cf100 : ∀ args w, (callFunc 100 args).run Tryz.prog w = .ok (.enter 100 args) w := fun _ _ => by kernel_rfl
theorem cf101 : ∀ args w, (callFunc 101 args).run Tryz.prog w = .ok (.enter 101 args) w := fun _ _ => by kernel_rfl
theorem cf104 : ∀ args w, (callFunc 104 args).run Tryz.prog w = .ok (.enter 104 args) w := fun _ _ => by kernel_rfl
theorem cf105 : ∀ args w, (callFunc 105 args).run Tryz.prog w = .ok (.enter 105 args) w := fun _ _ => by kernel_rfl
theorem cf106 : ∀ args w, (callFunc 106 args).run Tryz.prog w = .ok (.enter 106 args) w := fun _ _ => by kernel_rfl
theorem cf107 : ∀ args w, (callFunc 107 args).run Tryz.prog w = .ok (.enter 107 args) w := fun _ _ => by kernel_rfl
theorem cf108 : ∀ args w, (callFunc 108 args).run Tryz.prog w = .ok (.enter 108 args) w := fun _ _ => by kernel_rfl
theorem cf117 : ∀ args w, (callFunc 117 args).run Tryz.prog w = .ok (.enter 117 args) w := fun _ _ => by kernel_rfl
theorem cf134 : ∀ args w, (callFunc 134 args).run Tryz.prog w = .ok (.enter 134 args) w := fun _ _ => by kernel_rfl
theorem cf135 : ∀ args w, (callFunc 135 args).run Tryz.prog w = .ok (.enter 135 args) w := fun _ _ => by kernel_rfl
theorem cf136 : ∀ args w, (callFunc 136 args).run Tryz.prog w = .ok (.enter 136 args) w := fun _ _ => by kernel_rfl
theorem cf137 : ∀ args w, (callFunc 137 args).run Tryz.prog w = .ok (.enter 137 args) w := fun _ _ => by kernel_rfl
theorem cf138 : ∀ args w, (callFunc 138 args).run Tryz.prog w = .ok (.enter 138 args) w := fun _ _ => by kernel_rfl
theorem cf144 : ∀ args w, (callFunc 144 args).run Tryz.prog w = .ok (.enter 144 args) w := fun _ _ => by kernel_rfl
theorem cf155 : ∀ args w, (callFunc 155 args).run Tryz.prog w = .ok (.enter 155 args) w := fun _ _ => by kernel_rfl
theorem cf156 : ∀ args w, (callFunc 156 args).run Tryz.prog w = .ok (.enter 156 args) w := fun _ _ => by kernel_rfl
theorem cf160 : ∀ args w, (callFunc 160 args).run Tryz.prog w = .ok (.enter 160 args) w := fun _ _ => by kernel_rfl
end Go.Proofs.YtlkpfhdlfapfhabGreatDoor
