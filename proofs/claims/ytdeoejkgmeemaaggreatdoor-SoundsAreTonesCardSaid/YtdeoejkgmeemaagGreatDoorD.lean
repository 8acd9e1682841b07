/- Facts on the types and functions. Written by program. -/
import Derived.Test.YtdeoejkgmeemaagGreatDoorProg
import Derived.KernelRfl
import Derived.Test.YtdeoejkgmeemaagGreatDoorM
namespace Go.Proofs.YtdeoejkgmeemaagGreatDoor
open Go Go.J Go.G
set_option linter.unusedSimpArgs false
theorem ty3 : TyF Tryz.prog 3 false 1 8 [.int .i64 0] := TyF.mk' (z := .int .i64 0) Tryz.underlying3 rfl (by kernel_rfl) rfl
def R3 : Rep Int := ⟨3, 1, 8, fun x => [.int .i64 x], fun _ => rfl, fun x u hu => by simp only [List.mem_cons, List.mem_nil_iff, or_false] at hu; rcases hu with rfl <;> rfl, by decide⟩
theorem ty4 : TyF Tryz.prog 4 false 1 1 [.bool false] := TyF.mk' (z := .bool false) Tryz.underlying4 rfl (by kernel_rfl) rfl
def R4 : Rep Bool := ⟨4, 1, 1, fun x => [.bool x], fun _ => rfl, fun x u hu => by simp only [List.mem_cons, List.mem_nil_iff, or_false] at hu; rcases hu with rfl <;> rfl, by decide⟩
theorem ty9 : TyF Tryz.prog 9 false 1 16 [.string ByteArray.empty] := TyF.mk' (z := .string ByteArray.empty) Tryz.underlying9 rfl (by kernel_rfl) rfl
def R9 : Rep ByteArray := ⟨9, 1, 16, fun x => [.string x], fun _ => rfl, fun x u hu => by simp only [List.mem_cons, List.mem_nil_iff, or_false] at hu; rcases hu with rfl <;> rfl, by decide⟩
theorem ty22 : TyF Tryz.prog 22 false 1 24 [.slice none 0 0] := TyF.mk' (z := .slice none 0 0) Tryz.underlying22 rfl (by kernel_rfl) rfl
theorem ty23 : TyF Tryz.prog 23 false 1 8 [.pointer none] := TyF.mk' (z := .pointer none) Tryz.underlying23 rfl (by kernel_rfl) rfl
theorem ty25 : TyF Tryz.prog 25 true 2 32 [.slice none 0 0, .int .i64 0] := TyF.mk' (z := .agg #[.slice none 0 0, .int .i64 0]) Tryz.underlying25 rfl (by kernel_rfl) rfl
theorem ty28 : TyF Tryz.prog 28 false 1 24 [.slice none 0 0] := TyF.mk' (z := .slice none 0 0) Tryz.underlying28 rfl (by kernel_rfl) rfl
theorem ty31 : TyF Tryz.prog 31 false 1 8 [.int .i64 0] := TyF.mk' (z := .int .i64 0) Tryz.underlying31 rfl (by kernel_rfl) rfl
def R31 : Rep Int := ⟨31, 1, 8, fun x => [.int .i64 x], fun _ => rfl, fun x u hu => by simp only [List.mem_cons, List.mem_nil_iff, or_false] at hu; rcases hu with rfl <;> rfl, by decide⟩
theorem ty42 : TyF Tryz.prog 42 true 2 16 [.int .i64 0, .int .i64 0] := TyF.mk' (z := .agg #[.int .i64 0, .int .i64 0]) Tryz.underlying42 rfl (by kernel_rfl) rfl
def R42 : Rep TFraction := ⟨42, 2, 16, fun x => [.int .i64 x.Num, .int .i64 x.Den], fun _ => rfl, fun x u hu => by simp only [List.mem_cons, List.mem_nil_iff, or_false] at hu; rcases hu with rfl | rfl <;> rfl, by decide⟩
theorem ty44 : TyF Tryz.prog 44 true 5 48 [.int .i64 0, .int .i64 0, .int .i64 0, .string ByteArray.empty, .bool false] := TyF.mk' (z := .agg #[.int .i64 0, .int .i64 0, .int .i64 0, .string ByteArray.empty, .bool false]) Tryz.underlying44 rfl (by kernel_rfl) rfl
def R44 : Rep TTone := ⟨44, 5, 48, fun x => [.int .i64 x.Note, .int .i64 x.Long.Num, .int .i64 x.Long.Den, .string x.Text, .bool x.Tied], fun _ => rfl, fun x u hu => by simp only [List.mem_cons, List.mem_nil_iff, or_false] at hu; rcases hu with rfl | rfl | rfl | rfl | rfl <;> rfl, by decide⟩
theorem ty53 : TyF Tryz.prog 53 true 5 40 [.int .i64 0, .int .i64 0, .int .i64 0, .int .i64 0, .bool false] := TyF.mk' (z := .agg #[.int .i64 0, .int .i64 0, .int .i64 0, .int .i64 0, .bool false]) Tryz.underlying53 rfl (by kernel_rfl) rfl
def R53 : Rep TBar := ⟨53, 5, 40, fun x => [.int .i64 x.Beats, .int .i64 x.Unit, .int .i64 x.Close, .int .i64 x.Ending, .bool x.Open], fun _ => rfl, fun x u hu => by simp only [List.mem_cons, List.mem_nil_iff, or_false] at hu; rcases hu with rfl | rfl | rfl | rfl | rfl <;> rfl, by decide⟩
theorem ty68 : TyF Tryz.prog 68 true 2 32 [.pointer none, .slice none 0 0] := TyF.mk' (z := .agg #[.pointer none, .slice none 0 0]) Tryz.underlying68 rfl (by kernel_rfl) rfl
theorem ty86 : TyF Tryz.prog 86 true 3 24 [.int .i64 0, .int .i64 0, .int .i64 0] := TyF.mk' (z := .agg #[.int .i64 0, .int .i64 0, .int .i64 0]) Tryz.underlying86 rfl (by kernel_rfl) rfl
def R86 : Rep TChord := ⟨86, 3, 24, fun x => [.int .i64 x.Root, .int .i64 x.Kind, .int .i64 x.Turn], fun _ => rfl, fun x u hu => by simp only [List.mem_cons, List.mem_nil_iff, or_false] at hu; rcases hu with rfl | rfl | rfl <;> rfl, by decide⟩
theorem ty87 : TyF Tryz.prog 87 false 1 24 [.slice none 0 0] := TyF.mk' (z := .slice none 0 0) Tryz.underlying87 rfl (by kernel_rfl) rfl
theorem ty91 : TyF Tryz.prog 91 true 3 32 [.int .i64 0, .string ByteArray.empty, .bool false] := TyF.mk' (z := .agg #[.int .i64 0, .string ByteArray.empty, .bool false]) Tryz.underlying91 rfl (by kernel_rfl) rfl
def R91 : Rep TCame := ⟨91, 3, 32, fun x => [.int .i64 x.At, .string x.Singer, .bool x.Left], fun _ => rfl, fun x u hu => by simp only [List.mem_cons, List.mem_nil_iff, or_false] at hu; rcases hu with rfl | rfl | rfl <;> rfl, by decide⟩
theorem ty96 : TyF Tryz.prog 96 true 4 64 [.string ByteArray.empty, .string ByteArray.empty, .int .i64 0, .slice none 0 0] := TyF.mk' (z := .agg #[.string ByteArray.empty, .string ByteArray.empty, .int .i64 0, .slice none 0 0]) Tryz.underlying96 rfl (by kernel_rfl) rfl
theorem ty97 : TyF Tryz.prog 97 false 1 24 [.slice none 0 0] := TyF.mk' (z := .slice none 0 0) Tryz.underlying97 rfl (by kernel_rfl) rfl
theorem ty99 : TyF Tryz.prog 99 true 5 56 [.slice none 0 0, .int .i64 0, .int .i64 0, .int .i64 0, .int .i64 0] := TyF.mk' (z := .agg #[.slice none 0 0, .int .i64 0, .int .i64 0, .int .i64 0, .int .i64 0]) Tryz.underlying99 rfl (by kernel_rfl) rfl
theorem ty102 : TyF Tryz.prog 102 true 10 112 [.string ByteArray.empty, .int .i64 0, .int .i64 0, .int .i64 0, .string ByteArray.empty, .string ByteArray.empty, .int .i64 0, .bool false, .string ByteArray.empty, .int .i64 0] := TyF.mk' (z := .agg #[.string ByteArray.empty, .int .i64 0, .int .i64 0, .int .i64 0, .string ByteArray.empty, .string ByteArray.empty, .int .i64 0, .bool false, .string ByteArray.empty, .int .i64 0]) Tryz.underlying102 rfl (by kernel_rfl) rfl
def R102 : Rep TAct := ⟨102, 10, 112, fun x => [.string x.Site, .int .i64 x.No, .int .i64 x.At, .int .i64 x.Kind, .string x.Who, .string x.Motion, .int .i64 x.Cents, .bool x.Yes, .string x.Of, .int .i64 x.Other], fun _ => rfl, fun x u hu => by simp only [List.mem_cons, List.mem_nil_iff, or_false] at hu; rcases hu with rfl | rfl | rfl | rfl | rfl | rfl | rfl | rfl | rfl | rfl <;> rfl, by decide⟩
theorem ty103 : TyF Tryz.prog 103 false 1 24 [.slice none 0 0] := TyF.mk' (z := .slice none 0 0) Tryz.underlying103 rfl (by kernel_rfl) rfl
theorem ty122 : TyF Tryz.prog 122 false 1 8 [.map none] := TyF.mk' (z := .map none) Tryz.underlying122 rfl (by kernel_rfl) rfl
theorem ty128 : TyF Tryz.prog 128 true 2 16 [.int .i64 0, .int .i64 0] := TyF.mk' (z := .agg #[.int .i64 0, .int .i64 0]) Tryz.underlying128 rfl (by kernel_rfl) rfl
def R128 : Rep TWindow := ⟨128, 2, 16, fun x => [.int .i64 x.From, .int .i64 x.To], fun _ => rfl, fun x u hu => by simp only [List.mem_cons, List.mem_nil_iff, or_false] at hu; rcases hu with rfl | rfl <;> rfl, by decide⟩
theorem ty143 : TyF Tryz.prog 143 true 3 24 [.int .i64 0, .int .i64 0, .int .i64 0] := TyF.mk' (z := .agg #[.int .i64 0, .int .i64 0, .int .i64 0]) Tryz.underlying143 rfl (by kernel_rfl) rfl
def R143 : Rep Tpiece_repeat := ⟨143, 3, 24, fun x => [.int .i64 x.from_, .int .i64 x.to_, .int .i64 x.times], fun _ => rfl, fun x u hu => by simp only [List.mem_cons, List.mem_nil_iff, or_false] at hu; rcases hu with rfl | rfl | rfl <;> rfl, by decide⟩
theorem ty154 : TyF Tryz.prog 154 false 1 8 [.map none] := TyF.mk' (z := .map none) Tryz.underlying154 rfl (by kernel_rfl) rfl
theorem ty164 : TyF Tryz.prog 164 false 1 8 [.map none] := TyF.mk' (z := .map none) Tryz.underlying164 rfl (by kernel_rfl) rfl
theorem ty166 : TyF Tryz.prog 166 false 1 8 [.map none] := TyF.mk' (z := .map none) Tryz.underlying166 rfl (by kernel_rfl) rfl
theorem ty168 : TyF Tryz.prog 168 true 5 56 [.int .i64 0, .map none, .map none, .map none, .slice none 0 0] := TyF.mk' (z := .agg #[.int .i64 0, .map none, .map none, .map none, .slice none 0 0]) Tryz.underlying168 rfl (by kernel_rfl) rfl
theorem ty190 : TyF Tryz.prog 190 true 3 24 [.int .i64 0, .int .i64 0, .int .i64 0] := TyF.mk' (z := .agg #[.int .i64 0, .int .i64 0, .int .i64 0]) Tryz.underlying190 rfl (by kernel_rfl) rfl
def R190 : Rep Tclub_stay := ⟨190, 3, 24, fun x => [.int .i64 x.since, .int .i64 x.till, .int .i64 x.cents], fun _ => rfl, fun x u hu => by simp only [List.mem_cons, List.mem_nil_iff, or_false] at hu; rcases hu with rfl | rfl | rfl <;> rfl, by decide⟩
theorem ty219 : TyF Tryz.prog 219 false 1 8 [.map none] := TyF.mk' (z := .map none) Tryz.underlying219 rfl (by kernel_rfl) rfl
theorem ty221 : TyF Tryz.prog 221 true 2 24 [.string ByteArray.empty, .int .i64 0] := TyF.mk' (z := .agg #[.string ByteArray.empty, .int .i64 0]) Tryz.underlying221 rfl (by kernel_rfl) rfl
def R221 : Rep Tclub_own := ⟨221, 2, 24, fun x => [.string x.site, .int .i64 x.no], fun _ => rfl, fun x u hu => by simp only [List.mem_cons, List.mem_nil_iff, or_false] at hu; rcases hu with rfl | rfl <;> rfl, by decide⟩
theorem ty242 : TyF Tryz.prog 242 true 5 5 [.bool false, .bool false, .bool false, .bool false, .bool false] := TyF.mk' (z := .agg #[.bool false, .bool false, .bool false, .bool false, .bool false]) Tryz.underlying242 rfl (by kernel_rfl) rfl
def R242 : Rep Tclub_uses := ⟨242, 5, 5, fun x => [.bool x.who, .bool x.motion, .bool x.cents, .bool x.yes, .bool x.undo], fun _ => rfl, fun x u hu => by simp only [List.mem_cons, List.mem_nil_iff, or_false] at hu; rcases hu with rfl | rfl | rfl | rfl | rfl <;> rfl, by decide⟩
def N22 : Nst (List Int) SV := ⟨⟨22, 1, 24, fun p => [p.2.v], fun _ => rfl, fun p u hu => by simp only [List.mem_cons, List.mem_nil_iff, or_false] at hu; rcases hu with rfl <;> rfl, by decide⟩, fun p w => RdS R3 (SV.v p.2) p.1 w⟩
def N28 : Nst (List TTone) SV := ⟨⟨28, 1, 24, fun p => [p.2.v], fun _ => rfl, fun p u hu => by simp only [List.mem_cons, List.mem_nil_iff, or_false] at hu; rcases hu with rfl <;> rfl, by decide⟩, fun p w => RdS R44 (SV.v p.2) p.1 w⟩
def N96 : Nst TItem SV := ⟨⟨96, 4, 64, fun p => [.string p.1.Key, .string p.1.Places, .int .i64 p.1.Long, p.2.v], fun _ => rfl, fun p u hu => by simp only [List.mem_cons, List.mem_nil_iff, or_false] at hu; rcases hu with rfl | rfl | rfl | rfl <;> rfl, by decide⟩, fun p w => RdS R9 (SV.v p.2) p.1.Parts w⟩
theorem eqst221_ (d : Nat) (x y : Tclub_own) : EqV Tryz.prog (d + 2) 221 (.agg (R221.enc x).toArray) (.agg (R221.enc y).toArray) (decide (x = y)) := by
  have h : ((x.site == y.site) && ((x.no == y.no) && true)) = decide (x = y) := by rw [Bool.eq_iff_iff]; cases x; cases y; simp [ba_beq]
  rw [← h]
  exact eqv_struct Tryz.underlying221 (by kernel_rfl) (eqf_cons (.string x.site) (.string y.site) (by decide) (fun _ => by kernel_rfl) (fun _ => by kernel_rfl) (eqv_str Tryz.underlying9 _ _) (eqf_cons (.int .i64 x.no) (.int .i64 y.no) (by decide) (fun _ => by kernel_rfl) (fun _ => by kernel_rfl) (eqv_int Tryz.underlying3 _ _) eqf_nil))
theorem eqst221 (x y : Tclub_own) : EqV Tryz.prog 10000 221 (.agg (R221.enc x).toArray) (.agg (R221.enc y).toArray) (decide (x = y)) := eqst221_ 9998 x y
@[reducible] def vv3 : Int → Value := fun x => .int .i64 x
@[reducible] def vv4 : Bool → Value := fun x => .bool x
@[reducible] def kv9 : ByteArray → Value := fun x => .string x
theorem keyF9 : KeyF Tryz.prog 9 kv9 := keyF_str Tryz.underlying9
@[reducible] def kv221 : Tclub_own → Value := fun x => .agg (R221.enc x).toArray
theorem keyF221 : KeyF Tryz.prog 221 kv221 := keyF_agg Tryz.underlying221 (fun _ _ _ => by kernel_rfl) eqst221 (fun k v hv => by simp only [R221, List.mem_cons, List.not_mem_nil, or_false] at hv; rcases hv with rfl | rfl <;> simp [Instr.sameBits, ba_dec])
@[reducible] def vv226 : Unit → Value := fun x => .pointer none
theorem fl25_0 : FldF Tryz.prog 25 0 0 := fun _ _ => by kernel_rfl
theorem fl25_1 : FldF Tryz.prog 25 1 1 := fun _ _ => by kernel_rfl
theorem fl42_0 : FldF Tryz.prog 42 0 0 := fun _ _ => by kernel_rfl
theorem fl42_1 : FldF Tryz.prog 42 1 1 := fun _ _ => by kernel_rfl
theorem fl44_0 : FldF Tryz.prog 44 0 0 := fun _ _ => by kernel_rfl
theorem fl44_1 : FldF Tryz.prog 44 1 1 := fun _ _ => by kernel_rfl
theorem fl44_2 : FldF Tryz.prog 44 2 3 := fun _ _ => by kernel_rfl
theorem fl44_3 : FldF Tryz.prog 44 3 4 := fun _ _ => by kernel_rfl
theorem fl53_0 : FldF Tryz.prog 53 0 0 := fun _ _ => by kernel_rfl
theorem fl53_1 : FldF Tryz.prog 53 1 1 := fun _ _ => by kernel_rfl
theorem fl53_2 : FldF Tryz.prog 53 2 2 := fun _ _ => by kernel_rfl
theorem fl53_3 : FldF Tryz.prog 53 3 3 := fun _ _ => by kernel_rfl
theorem fl53_4 : FldF Tryz.prog 53 4 4 := fun _ _ => by kernel_rfl
theorem fl86_0 : FldF Tryz.prog 86 0 0 := fun _ _ => by kernel_rfl
theorem fl86_1 : FldF Tryz.prog 86 1 1 := fun _ _ => by kernel_rfl
theorem fl86_2 : FldF Tryz.prog 86 2 2 := fun _ _ => by kernel_rfl
theorem fl91_0 : FldF Tryz.prog 91 0 0 := fun _ _ => by kernel_rfl
theorem fl91_1 : FldF Tryz.prog 91 1 1 := fun _ _ => by kernel_rfl
theorem fl91_2 : FldF Tryz.prog 91 2 2 := fun _ _ => by kernel_rfl
theorem fl96_0 : FldF Tryz.prog 96 0 0 := fun _ _ => by kernel_rfl
theorem fl96_1 : FldF Tryz.prog 96 1 1 := fun _ _ => by kernel_rfl
theorem fl96_2 : FldF Tryz.prog 96 2 2 := fun _ _ => by kernel_rfl
theorem fl96_3 : FldF Tryz.prog 96 3 3 := fun _ _ => by kernel_rfl
theorem fl99_0 : FldF Tryz.prog 99 0 0 := fun _ _ => by kernel_rfl
theorem fl99_1 : FldF Tryz.prog 99 1 1 := fun _ _ => by kernel_rfl
theorem fl99_2 : FldF Tryz.prog 99 2 2 := fun _ _ => by kernel_rfl
theorem fl99_3 : FldF Tryz.prog 99 3 3 := fun _ _ => by kernel_rfl
theorem fl99_4 : FldF Tryz.prog 99 4 4 := fun _ _ => by kernel_rfl
theorem fl102_0 : FldF Tryz.prog 102 0 0 := fun _ _ => by kernel_rfl
theorem fl102_1 : FldF Tryz.prog 102 1 1 := fun _ _ => by kernel_rfl
theorem fl102_2 : FldF Tryz.prog 102 2 2 := fun _ _ => by kernel_rfl
theorem fl102_3 : FldF Tryz.prog 102 3 3 := fun _ _ => by kernel_rfl
theorem fl102_4 : FldF Tryz.prog 102 4 4 := fun _ _ => by kernel_rfl
theorem fl102_5 : FldF Tryz.prog 102 5 5 := fun _ _ => by kernel_rfl
theorem fl102_6 : FldF Tryz.prog 102 6 6 := fun _ _ => by kernel_rfl
theorem fl102_7 : FldF Tryz.prog 102 7 7 := fun _ _ => by kernel_rfl
theorem fl102_8 : FldF Tryz.prog 102 8 8 := fun _ _ => by kernel_rfl
theorem fl102_9 : FldF Tryz.prog 102 9 9 := fun _ _ => by kernel_rfl
theorem fl128_0 : FldF Tryz.prog 128 0 0 := fun _ _ => by kernel_rfl
theorem fl128_1 : FldF Tryz.prog 128 1 1 := fun _ _ => by kernel_rfl
theorem fl143_0 : FldF Tryz.prog 143 0 0 := fun _ _ => by kernel_rfl
theorem fl143_1 : FldF Tryz.prog 143 1 1 := fun _ _ => by kernel_rfl
theorem fl143_2 : FldF Tryz.prog 143 2 2 := fun _ _ => by kernel_rfl
theorem fl168_1 : FldF Tryz.prog 168 1 1 := fun _ _ => by kernel_rfl
theorem fl168_2 : FldF Tryz.prog 168 2 2 := fun _ _ => by kernel_rfl
theorem fl168_3 : FldF Tryz.prog 168 3 3 := fun _ _ => by kernel_rfl
theorem fl168_4 : FldF Tryz.prog 168 4 4 := fun _ _ => by kernel_rfl
theorem fl190_1 : FldF Tryz.prog 190 1 1 := fun _ _ => by kernel_rfl
theorem fl242_0 : FldF Tryz.prog 242 0 0 := fun _ _ => by kernel_rfl
theorem fl242_1 : FldF Tryz.prog 242 1 1 := fun _ _ => by kernel_rfl
theorem fl242_2 : FldF Tryz.prog 242 2 2 := fun _ _ => by kernel_rfl
theorem fl242_3 : FldF Tryz.prog 242 3 3 := fun _ _ => by kernel_rfl
theorem fl242_4 : FldF Tryz.prog 242 4 4 := fun _ _ => by kernel_rfl
theorem cf4 : ∀ args w, (callFunc 4 args).run Tryz.prog w = .ok (.enter 4 args) w := fun _ _ => by kernel_rfl
theorem cf5 : ∀ args w, (callFunc 5 args).run Tryz.prog w = .ok (.enter 5 args) w := fun _ _ => by kernel_rfl
theorem cf6 : ∀ args w, (callFunc 6 args).run Tryz.prog w = .ok (.enter 6 args) w := fun _ _ => by kernel_rfl
theorem cf7 : ∀ args w, (callFunc 7 args).run Tryz.prog w = .ok (.enter 7 args) w := fun _ _ => by kernel_rfl
theorem cf8 : ∀ args w, (callFunc 8 args).run Tryz.prog w = .ok (.enter 8 args) w := fun _ _ => by kernel_rfl
theorem cf9 : ∀ args w, (callFunc 9 args).run Tryz.prog w = .ok (.enter 9 args) w := fun _ _ => by kernel_rfl
theorem cf10 : ∀ args w, (callFunc 10 args).run Tryz.prog w = .ok (.enter 10 args) w := fun _ _ => by kernel_rfl
theorem cf11 : ∀ args w, (callFunc 11 args).run Tryz.prog w = .ok (.enter 11 args) w := fun _ _ => by kernel_rfl
theorem cf12 : ∀ args w, (callFunc 12 args).run Tryz.prog w = .ok (.enter 12 args) w := fun _ _ => by kernel_rfl
theorem cf13 : ∀ args w, (callFunc 13 args).run Tryz.prog w = .ok (.enter 13 args) w := fun _ _ => by kernel_rfl
theorem cf14 : ∀ args w, (callFunc 14 args).run Tryz.prog w = .ok (.enter 14 args) w := fun _ _ => by kernel_rfl
theorem cf15 : ∀ args w, (callFunc 15 args).run Tryz.prog w = .ok (.enter 15 args) w := fun _ _ => by kernel_rfl
theorem cf16 : ∀ args w, (callFunc 16 args).run Tryz.prog w = .ok (.enter 16 args) w := fun _ _ => by kernel_rfl
theorem cf17 : ∀ args w, (callFunc 17 args).run Tryz.prog w = .ok (.enter 17 args) w := fun _ _ => by kernel_rfl
theorem cf18 : ∀ args w, (callFunc 18 args).run Tryz.prog w = .ok (.enter 18 args) w := fun _ _ => by kernel_rfl
theorem cf19 : ∀ args w, (callFunc 19 args).run Tryz.prog w = .ok (.enter 19 args) w := fun _ _ => by kernel_rfl
theorem cf20 : ∀ args w, (callFunc 20 args).run Tryz.prog w = .ok (.enter 20 args) w := fun _ _ => by kernel_rfl
theorem cf21 : ∀ args w, (callFunc 21 args).run Tryz.prog w = .ok (.enter 21 args) w := fun _ _ => by kernel_rfl
theorem cf22 : ∀ args w, (callFunc 22 args).run Tryz.prog w = .ok (.enter 22 args) w := fun _ _ => by kernel_rfl
theorem cf23 : ∀ args w, (callFunc 23 args).run Tryz.prog w = .ok (.enter 23 args) w := fun _ _ => by kernel_rfl
theorem cf24 : ∀ args w, (callFunc 24 args).run Tryz.prog w = .ok (.enter 24 args) w := fun _ _ => by kernel_rfl
theorem cf25 : ∀ args w, (callFunc 25 args).run Tryz.prog w = .ok (.enter 25 args) w := fun _ _ => by kernel_rfl
theorem cf26 : ∀ args w, (callFunc 26 args).run Tryz.prog w = .ok (.enter 26 args) w := fun _ _ => by kernel_rfl
theorem cf27 : ∀ args w, (callFunc 27 args).run Tryz.prog w = .ok (.enter 27 args) w := fun _ _ => by kernel_rfl
theorem cf28 : ∀ args w, (callFunc 28 args).run Tryz.prog w = .ok (.enter 28 args) w := fun _ _ => by kernel_rfl
theorem cf29 : ∀ args w, (callFunc 29 args).run Tryz.prog w = .ok (.enter 29 args) w := fun _ _ => by kernel_rfl
theorem cf30 : ∀ args w, (callFunc 30 args).run Tryz.prog w = .ok (.enter 30 args) w := fun _ _ => by kernel_rfl
theorem cf31 : ∀ args w, (callFunc 31 args).run Tryz.prog w = .ok (.enter 31 args) w := fun _ _ => by kernel_rfl
theorem cf33 : ∀ args w, (callFunc 33 args).run Tryz.prog w = .ok (.enter 33 args) w := fun _ _ => by kernel_rfl
theorem cf34 : ∀ args w, (callFunc 34 args).run Tryz.prog w = .ok (.enter 34 args) w := fun _ _ => by kernel_rfl
theorem cf35 : ∀ args w, (callFunc 35 args).run Tryz.prog w = .ok (.enter 35 args) w := fun _ _ => by kernel_rfl
theorem cf36 : ∀ args w, (callFunc 36 args).run Tryz.prog w = .ok (.enter 36 args) w := fun _ _ => by kernel_rfl
theorem cf37 : ∀ args w, (callFunc 37 args).run Tryz.prog w = .ok (.enter 37 args) w := fun _ _ => by kernel_rfl
theorem cf38 : ∀ args w, (callFunc 38 args).run Tryz.prog w = .ok (.enter 38 args) w := fun _ _ => by kernel_rfl
theorem cf39 : ∀ args w, (callFunc 39 args).run Tryz.prog w = .ok (.enter 39 args) w := fun _ _ => by kernel_rfl
theorem cf40 : ∀ args w, (callFunc 40 args).run Tryz.prog w = .ok (.enter 40 args) w := fun _ _ => by kernel_rfl
theorem cf41 : ∀ args w, (callFunc 41 args).run Tryz.prog w = .ok (.enter 41 args) w := fun _ _ => by kernel_rfl
theorem cf42 : ∀ args w, (callFunc 42 args).run Tryz.prog w = .ok (.enter 42 args) w := fun _ _ => by kernel_rfl
theorem cf43 : ∀ args w, (callFunc 43 args).run Tryz.prog w = .ok (.enter 43 args) w := fun _ _ => by kernel_rfl
theorem cf44 : ∀ args w, (callFunc 44 args).run Tryz.prog w = .ok (.enter 44 args) w := fun _ _ => by kernel_rfl
theorem cf45 : ∀ args w, (callFunc 45 args).run Tryz.prog w = .ok (.enter 45 args) w := fun _ _ => by kernel_rfl
theorem cf46 : ∀ args w, (callFunc 46 args).run Tryz.prog w = .ok (.enter 46 args) w := fun _ _ => by kernel_rfl
theorem cf47 : ∀ args w, (callFunc 47 args).run Tryz.prog w = .ok (.enter 47 args) w := fun _ _ => by kernel_rfl
theorem cf48 : ∀ args w, (callFunc 48 args).run Tryz.prog w = .ok (.enter 48 args) w := fun _ _ => by kernel_rfl
theorem cf49 : ∀ args w, (callFunc 49 args).run Tryz.prog w = .ok (.enter 49 args) w := fun _ _ => by kernel_rfl
theorem cf50 : ∀ args w, (callFunc 50 args).run Tryz.prog w = .ok (.enter 50 args) w := fun _ _ => by kernel_rfl
theorem cf52 : ∀ args w, (callFunc 52 args).run Tryz.prog w = .ok (.enter 52 args) w := fun _ _ => by kernel_rfl
theorem cf57 : ∀ args w, (callFunc 57 args).run Tryz.prog w = .ok (.enter 57 args) w := fun _ _ => by kernel_rfl
theorem cf58 : ∀ args w, (callFunc 58 args).run Tryz.prog w = .ok (.enter 58 args) w := fun _ _ => by kernel_rfl
theorem cf59 : ∀ args w, (callFunc 59 args).run Tryz.prog w = .ok (.enter 59 args) w := fun _ _ => by kernel_rfl
theorem cf60 : ∀ args w, (callFunc 60 args).run Tryz.prog w = .ok (.enter 60 args) w := fun _ _ => by kernel_rfl
theorem cf61 : ∀ args w, (callFunc 61 args).run Tryz.prog w = .ok (.enter 61 args) w := fun _ _ => by kernel_rfl
theorem cf62 : ∀ args w, (callFunc 62 args).run Tryz.prog w = .ok (.enter 62 args) w := fun _ _ => by kernel_rfl
theorem cf63 : ∀ args w, (callFunc 63 args).run Tryz.prog w = .ok (.enter 63 args) w := fun _ _ => by kernel_rfl
theorem cf64 : ∀ args w, (callFunc 64 args).run Tryz.prog w = .ok (.enter 64 args) w := fun _ _ => by kernel_rfl
theorem cf65 : ∀ args w, (callFunc 65 args).run Tryz.prog w = .ok (.enter 65 args) w := fun _ _ => by kernel_rfl
theorem cf66 : ∀ args w, (callFunc 66 args).run Tryz.prog w = .ok (.enter 66 args) w := fun _ _ => by kernel_rfl
theorem cf67 : ∀ args w, (callFunc 67 args).run Tryz.prog w = .ok (.enter 67 args) w := fun _ _ => by kernel_rfl
theorem cf68 : ∀ args w, (callFunc 68 args).run Tryz.prog w = .ok (.enter 68 args) w := fun _ _ => by kernel_rfl
theorem cf69 : ∀ args w, (callFunc 69 args).run Tryz.prog w = .ok (.enter 69 args) w := fun _ _ => by kernel_rfl
theorem cf70 : ∀ args w, (callFunc 70 args).run Tryz.prog w = .ok (.enter 70 args) w := fun _ _ => by kernel_rfl
theorem cf71 : ∀ args w, (callFunc 71 args).run Tryz.prog w = .ok (.enter 71 args) w := fun _ _ => by kernel_rfl
theorem cf72 : ∀ args w, (callFunc 72 args).run Tryz.prog w = .ok (.enter 72 args) w := fun _ _ => by kernel_rfl
theorem cf73 : ∀ args w, (callFunc 73 args).run Tryz.prog w = .ok (.enter 73 args) w := fun _ _ => by kernel_rfl
theorem cf74 : ∀ args w, (callFunc 74 args).run Tryz.prog w = .ok (.enter 74 args) w := fun _ _ => by kernel_rfl
theorem cf75 : ∀ args w, (callFunc 75 args).run Tryz.prog w = .ok (.enter 75 args) w := fun _ _ => by kernel_rfl
theorem cf76 : ∀ args w, (callFunc 76 args).run Tryz.prog w = .ok (.enter 76 args) w := fun _ _ => by kernel_rfl
theorem cf83 : ∀ args w, (callFunc 83 args).run Tryz.prog w = .ok (.enter 83 args) w := fun _ _ => by kernel_rfl
theorem cf84 : ∀ args w, (callFunc 84 args).run Tryz.prog w = .ok (.enter 84 args) w := fun _ _ => by kernel_rfl
theorem cf85 : ∀ args w, (callFunc 85 args).run Tryz.prog w = .ok (.enter 85 args) w := fun _ _ => by kernel_rfl
theorem cf87 : ∀ args w, (callFunc 87 args).run Tryz.prog w = .ok (.enter 87 args) w := fun _ _ => by kernel_rfl
theorem cf88 : ∀ args w, (callFunc 88 args).run Tryz.prog w = .ok (.enter 88 args) w := fun _ _ => by kernel_rfl
theorem cf89 : ∀ args w, (callFunc 89 args).run Tryz.prog w = .ok (.enter 89 args) w := fun _ _ => by kernel_rfl
theorem cf90 : ∀ args w, (callFunc 90 args).run Tryz.prog w = .ok (.enter 90 args) w := fun _ _ => by kernel_rfl
theorem cf91 : ∀ args w, (callFunc 91 args).run Tryz.prog w = .ok (.enter 91 args) w := fun _ _ => by kernel_rfl
theorem cf92 : ∀ args w, (callFunc 92 args).run Tryz.prog w = .ok (.enter 92 args) w := fun _ _ => by kernel_rfl
theorem cf93 : ∀ args w, (callFunc 93 args).run Tryz.prog w = .ok (.enter 93 args) w := fun _ _ => by kernel_rfl
theorem cf94 : ∀ args w, (callFunc 94 args).run Tryz.prog w = .ok (.enter 94 args) w := fun _ _ => by kernel_rfl
theorem cf95 : ∀ args w, (callFunc 95 args).run Tryz.prog w = .ok (.enter 95 args) w := fun _ _ => by kernel_rfl
theorem cf96 : ∀ args w, (callFunc 96 args).run Tryz.prog w = .ok (.enter 96 args) w := fun _ _ => by kernel_rfl
theorem cf97 : ∀ args w, (callFunc 97 args).run Tryz.prog w = .ok (.enter 97 args) w := fun _ _ => by kernel_rfl
theorem cf98 : ∀ args w, (callFunc 98 args).run Tryz.prog w = .ok (.enter 98 args) w := fun _ _ => by kernel_rfl
theorem cf99 : ∀ args w, (callFunc 99 args).run Tryz.prog w = .ok (.enter 99 args) w := fun _ _ => by kernel_rfl
theorem cf100 : ∀ args w, (callFunc 100 args).run Tryz.prog w = .ok (.enter 100 args) w := fun _ _ => by kernel_rfl
theorem cf101 : ∀ args w, (callFunc 101 args).run Tryz.prog w = .ok (.enter 101 args) w := fun _ _ => by kernel_rfl
theorem cf108 : ∀ args w, (callFunc 108 args).run Tryz.prog w = .ok (.enter 108 args) w := fun _ _ => by kernel_rfl
theorem cf109 : ∀ args w, (callFunc 109 args).run Tryz.prog w = .ok (.enter 109 args) w := fun _ _ => by kernel_rfl
theorem cf110 : ∀ args w, (callFunc 110 args).run Tryz.prog w = .ok (.enter 110 args) w := fun _ _ => by kernel_rfl
theorem cf111 : ∀ args w, (callFunc 111 args).run Tryz.prog w = .ok (.enter 111 args) w := fun _ _ => by kernel_rfl
theorem cf112 : ∀ args w, (callFunc 112 args).run Tryz.prog w = .ok (.enter 112 args) w := fun _ _ => by kernel_rfl
theorem cf113 : ∀ args w, (callFunc 113 args).run Tryz.prog w = .ok (.enter 113 args) w := fun _ _ => by kernel_rfl
theorem cf114 : ∀ args w, (callFunc 114 args).run Tryz.prog w = .ok (.enter 114 args) w := fun _ _ => by kernel_rfl
theorem cf117 : ∀ args w, (callFunc 117 args).run Tryz.prog w = .ok (.enter 117 args) w := fun _ _ => by kernel_rfl
theorem cf118 : ∀ args w, (callFunc 118 args).run Tryz.prog w = .ok (.enter 118 args) w := fun _ _ => by kernel_rfl
theorem cf119 : ∀ args w, (callFunc 119 args).run Tryz.prog w = .ok (.enter 119 args) w := fun _ _ => by kernel_rfl
theorem cf120 : ∀ args w, (callFunc 120 args).run Tryz.prog w = .ok (.enter 120 args) w := fun _ _ => by kernel_rfl
theorem cf121 : ∀ args w, (callFunc 121 args).run Tryz.prog w = .ok (.enter 121 args) w := fun _ _ => by kernel_rfl
theorem cf122 : ∀ args w, (callFunc 122 args).run Tryz.prog w = .ok (.enter 122 args) w := fun _ _ => by kernel_rfl
theorem cf123 : ∀ args w, (callFunc 123 args).run Tryz.prog w = .ok (.enter 123 args) w := fun _ _ => by kernel_rfl
theorem cf124 : ∀ args w, (callFunc 124 args).run Tryz.prog w = .ok (.enter 124 args) w := fun _ _ => by kernel_rfl
theorem cf125 : ∀ args w, (callFunc 125 args).run Tryz.prog w = .ok (.enter 125 args) w := fun _ _ => by kernel_rfl
theorem cf126 : ∀ args w, (callFunc 126 args).run Tryz.prog w = .ok (.enter 126 args) w := fun _ _ => by kernel_rfl
theorem cf127 : ∀ args w, (callFunc 127 args).run Tryz.prog w = .ok (.enter 127 args) w := fun _ _ => by kernel_rfl
theorem cf141 : ∀ args w, (callFunc 141 args).run Tryz.prog w = .ok (.enter 141 args) w := fun _ _ => by kernel_rfl
theorem cf154 : ∀ args w, (callFunc 154 args).run Tryz.prog w = .ok (.enter 154 args) w := fun _ _ => by kernel_rfl
theorem cf155 : ∀ args w, (callFunc 155 args).run Tryz.prog w = .ok (.enter 155 args) w := fun _ _ => by kernel_rfl
theorem cf156 : ∀ args w, (callFunc 156 args).run Tryz.prog w = .ok (.enter 156 args) w := fun _ _ => by kernel_rfl
theorem cf157 : ∀ args w, (callFunc 157 args).run Tryz.prog w = .ok (.enter 157 args) w := fun _ _ => by kernel_rfl
theorem cf158 : ∀ args w, (callFunc 158 args).run Tryz.prog w = .ok (.enter 158 args) w := fun _ _ => by kernel_rfl
theorem cf159 : ∀ args w, (callFunc 159 args).run Tryz.prog w = .ok (.enter 159 args) w := fun _ _ => by kernel_rfl
theorem cf160 : ∀ args w, (callFunc 160 args).run Tryz.prog w = .ok (.enter 160 args) w := fun _ _ => by kernel_rfl
theorem cf176 : ∀ args w, (callFunc 176 args).run Tryz.prog w = .ok (.enter 176 args) w := fun _ _ => by kernel_rfl
theorem cf177 : ∀ args w, (callFunc 177 args).run Tryz.prog w = .ok (.enter 177 args) w := fun _ _ => by kernel_rfl
end Go.Proofs.YtdeoejkgmeemaagGreatDoor
