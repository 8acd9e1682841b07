/- Contracts of library functions; no condition. -/
import Derived.Test.YtlhfimbpjdfdgacGreatDoorXM
import Derived.Test.YtlhfimbpjdfdgacGreatDoorXC
import Derived.Test.YtlhfimbpjdfdgacGreatDoorD
import Derived.Test.YtlhfimbpjdfdgacGreatDoorShelf
import Derived.Sort.OwnSorted
import Derived.Lib.SmallJoins
namespace Go.Proofs.YtlhfimbpjdfdgacGreatDoor
open Go Go.J Go.G Go.Sort
set_option maxRecDepth 100000
theorem ok_strings_IndexByte (a0 : ByteArray) (a1 : Int) {r : Int} (hm : m_strings_IndexByte a0 a1 = some r) :
    Ctr Tryz.prog 118 [.string a0, .int .u8 a1].toArray ([] : List Ent) [] (X := Unit) (fun _ => .int .i64 r) (fun _ => []) := by
  obtain rfl := Option.some.inj hm
  exact Ctr.of_below fun w _ => (Any.strings_IndexByte Tryz.lays137 a0 a1 w).mono fun e w' ⟨he, hw⟩ => ⟨he, by subst hw; exact .refl _ _⟩
theorem ok_strings_Trim (a0 a1 : ByteArray) {r : ByteArray} (hm : m_strings_Trim a0 a1 = some r) :
    Ctr Tryz.prog 115 [.string a0, .string a1].toArray ([] : List Ent) [] (X := Unit) (fun _ => .string r) (fun _ => []) := by
  unfold m_strings_Trim at hm
  split at hm
  · rename_i h
    obtain rfl := Option.some.inj hm
    exact Ctr.of_below fun w _ => (Any.strings_Trim_laid Tryz.lays160 (by kernel_rfl) a0 a1 w h.1 h.2.1 (ascii_of_all h.2.2)).mono fun e w' ⟨he, hw⟩ => ⟨he, hw⟩
  · cases hm
theorem cellsS (zs : List ByteArray) : R9.cells zs = (zs.map bytesOf).map encStr := by
  show zs.flatMap (fun x => [Value.string x]) = _
  rw [List.map_map, ← List.map_eq_flatMap]; rfl
theorem cellsS' (zs : List (List UInt8)) : R9.cells (zs.map ofBytes) = zs.map encStr := by
  have : (zs.map ofBytes).map bytesOf = zs := by
    rw [List.map_map]
    exact (List.map_congr_left fun x _ => rfl).trans (List.map_id zs)
  rw [cellsS, this]
theorem ok_slices_Sort_string_string (s0_ : SV) (a0 : List ByteArray) {r : List ByteArray} (hm : m_slices_Sort_string_string a0 = some r) :
    Ctr Tryz.prog 98 [s0_.v].toArray [.row R9 (SV.v s0_) a0] [] (X := Unit) (fun _ => .tuple [].toArray) (fun _ => [.row R9 (SV.v s0_) r]) := by
  unfold m_slices_Sort_string_string at hm
  split at hm
  · rename_i hl
    obtain rfl := Option.some.inj hm
    intro w A hs
    have hrow : w.ownsRow 0 9 1 s0_.v a0.length (R9.cells a0) := hs.okx _ (List.mem_cons_self ..)
    have hs2 : Sat w (keys [Ent.row R9 (SV.v s0_) a0]) A [Ent.row R9 (SV.v s0_) a0] w := hs
    rcases hrow.2 with ⟨hn, h0⟩ | ⟨g, cap, cur, hv, hb0, hg, hle, hcap, hsz, ht⟩
    · have : a0 = [] := List.eq_nil_of_length_eq_zero h0
      subst this
      rw [hn]
      refine (Any.slices_Sort_string_none Tryz.lays190 none 0 w).mono ?_
      rintro e w' ⟨rfl, rfl⟩
      refine ⟨(), rfl, ?_⟩
      rw [hn] at hs2
      simpa using hs2
    · rw [cellsS, Nat.mul_one] at ht
      have hlt : g < w.heap.size := (Array.getElem?_eq_some_iff.1 hg).1
      rw [hv]
      generalize hss : a0.map bytesOf = ss at ht
      have hsl : ss.length = a0.length := by subst hss; simp
      have hsort := Any.slices_Sort_string Tryz.lays190 g 0 cap ss w (holds_of_block hg (by rw [hsl]; exact ht)) hlt (by omega)
      rw [hsl] at hsort
      refine hsort.mono ?_
      rintro e w' ⟨rfl, n, os, rfl⟩
      refine ⟨(), rfl, ?_⟩
      have hown := ownsRow_sorted (w := w) (base := 0) (g := g) (cap := cap) (n := n) (e := 9) (os := os) (cur := cur) (ss := ss) (ts := ss.mergeSort fun x y => decide (x ≤ y)) (by simp) (Nat.zero_le _) hg (by omega) hcap hsz
      obtain ⟨g1, g2, g3, g4, g5⟩ := grownBy_sorted (w := w) (g := g) (n := n) (os := os) (ss.mergeSort fun x y => decide (x ≤ y)).toArray
      rw [hv] at hs2
      refine hs2.swap (k := 0) (e' := .row R9 (.slice (some ⟨g, 0, none⟩) a0.length cap) ((ss.mergeSort fun x y => decide (x ≤ y)).map ofBytes)) rfl ⟨g1, g2, g3, g4, fun b hb hne => g5 b hb (fun e => hne (by cases e; exact List.mem_cons_self ..))⟩ ?_ (fun b hb => ?_) (fun F hF => by cases hF)
      · show World.ownsRow _ 0 9 1 _ ((ss.mergeSort fun x y => decide (x ≤ y)).map ofBytes).length (R9.cells _)
        rw [cellsS', List.length_map, List.length_mergeSort]
        rw [← hsl]
        exact hown
      · cases hb
        exact ⟨by simp; omega, .inr rfl⟩
  · cases hm
theorem ok_strings_Compare (a0 a1 : ByteArray) {r : Int} (hm : m_strings_Compare a0 a1 = some r) :
    Ctr Tryz.prog 121 [.string a0, .string a1].toArray ([] : List Ent) [] (X := Unit) (fun _ => .int .i64 r) (fun _ => []) := by
  obtain rfl := Option.some.inj hm
  exact Ctr.of_below fun w _ => (Any.strings_Compare Tryz.lays106 a0 a1 w).mono fun e w' ⟨he, hw⟩ => ⟨he, by subst hw; exact .refl _ _⟩
def PowT (w : World) : Prop := Lib.TabIs Tryz.prog w "internal/strconv.uint64pow10" .u64 Lib.pow10Tab
theorem ok_strconv_Itoa (a0 : Int) {r : ByteArray} (hm : m_strconv_Itoa a0 = some r) :
    Ctr Tryz.prog 43 [.int .i64 a0].toArray ([] : List Ent) [PowT] (X := Unit) (fun _ => .string r) (fun _ => []) := by
  unfold m_strconv_Itoa at hm
  split at hm
  · rename_i h
    obtain rfl := Option.some.inj hm
    refine Ctr.of_below fun w hF => (Any.strconv_Itoa Tryz.laysM171 a0 h.1 h.2 w (hF _ (List.mem_cons_self ..))).mono fun e w' ⟨he, k, os, hw⟩ => ⟨he, ?_⟩
    subst hw
    exact ⟨rfl, rfl, rfl, by simp [Go.Sort.grow], fun j hj => by rw [Go.Sort.heap_grow_old _ _ (by simpa using hj)]; simp⟩
  · cases hm
theorem ok_stringslite_IndexByte (a0 : ByteArray) (a1 : Int) {r : Int} (hm : m_stringslite_IndexByte a0 a1 = some r) :
    Ctr Tryz.prog 143 [.string a0, .int .u8 a1].toArray ([] : List Ent) [] (X := Unit) (fun _ => .int .i64 r) (fun _ => []) := by
  obtain rfl := Option.some.inj hm
  exact Ctr.of_below fun w _ => (Any.stringslite_IndexByte Tryz.lays217 a0 a1 w).mono fun e w' ⟨he, hw⟩ => ⟨he, by subst hw; exact .refl _ _⟩
theorem ok_strconv_Atoi (a0 : ByteArray) {r : Int × Unit} (hm : m_strconv_Atoi a0 = some r) :
    Ctr Tryz.prog 116 [.string a0].toArray ([] : List Ent) [] (X := Unit) (fun _ => .tuple [.int .i64 r.1, .nilIface].toArray) (fun _ => []) := by
  unfold m_strconv_Atoi at hm
  split at hm
  · rename_i h
    cases hn : Lib.atoi a0.data.toList with
    | none => rw [hn] at hm; cases hm
    | some n =>
      rw [hn] at hm
      obtain rfl := Option.some.inj hm
      exact Ctr.of_below fun w _ => (Any.strconv_Atoi Tryz.lays172 a0 n h hn w).mono fun e w' ⟨he, t, hw⟩ => ⟨he, by subst hw; exact Go.Joins.below_bytesWorld _ _ _ _ (Nat.le_refl _)⟩
  · cases hm
def UtfT (w : World) : Prop := Lib.Utf8Tabs 1 2 w
theorem ok_utf8_ValidString (a0 : ByteArray) {r : Bool} (hm : m_utf8_ValidString a0 = some r) :
    Ctr Tryz.prog 117 [.string a0].toArray ([] : List Ent) [UtfT] (X := Unit) (fun _ => .bool r) (fun _ => []) := by
  unfold m_utf8_ValidString at hm
  split at hm
  · rename_i h
    obtain rfl := Option.some.inj hm
    exact Ctr.of_below fun w hF => Any.utf8_ValidString Tryz.lays196 a0 w h (hF _ (List.mem_cons_self ..))
  · cases hm
theorem cfCC' : ∀ args w, (callFunc 44 args).run Tryz.prog w = .ok (.enter 44 args) w := fun _ _ => by kernel_rfl
theorem noEsc (v : Value) (w : World) : (callFunc 78 [v].toArray).run Tryz.prog w = .ok (.value v) w := by
  rw [run_callFunc_extern Tryz.func78 (by kernel_rfl) (by kernel_rfl) (by kernel_rfl) (e := Extern.AbiNoEscape.same) (by kernel_rfl)]
  show ((Extern.AbiNoEscape.same #[v]).run Tryz.prog w).andThen _ = _
  rw [Lib.run_noEscape]
  rfl
theorem tyPB' : TyF Tryz.prog 53 false 1 8 [.pointer none] := TyF.mk' (z := .pointer none) Tryz.underlying53 rfl (by kernel_rfl) rfl
theorem tyBS' : TyF Tryz.prog 54 false 1 24 [.slice none 0 0] := TyF.mk' (z := .slice none 0 0) Tryz.underlying54 rfl (by kernel_rfl) rfl
theorem ty5' : TyF Tryz.prog 5 false 1 1 [.int .u8 0] := TyF.mk' (z := .int .u8 0) Tryz.underlying5 rfl (by kernel_rfl) rfl
theorem flB_0' : FldF Tryz.prog 56 0 0 := fun _ _ => by kernel_rfl
theorem flB_1' : FldF Tryz.prog 56 1 1 := fun _ _ => by kernel_rfl
theorem ok_copyCheck_fresh (b : Nat) (v : SV) :
    Ctr Tryz.prog 44 [.pointer (some ⟨b, 0, none⟩)].toArray [.box b 56 [.pointer none, v.v]] [] (X := Unit) (fun _ => .tuple #[]) (fun _ => [.box b 56 [.pointer (some ⟨b, 0, none⟩), v.v]]) := by
  refine ctr_mk (vs := [(0, .pointer (some ⟨b, 0, none⟩))]) Tryz.func44 rfl Tryz.ntmps44 rfl ⟨rfl, trivial⟩ (fun w0 A => ?_)
  obtain ⟨i, -, hi, -, -, hsz, -⟩ := ty56.info
  refine cj_seq ?_
  refine cj_reg ?_
  refine lp rfl (p_mv rfl) ?_
  refine lp rfl (p_nc rfl) ?_
  refine lp rfl (p_fab flB_0' rfl) ?_
  refine lp rfl (p_lbs tyPB' rfl (j := 0) rfl rfl) ?_
  refine lp rfl (p_eqpn Tryz.underlying53 rfl rfl) ?_
  refine lj_seq ?_
  refine cj_if_t rfl ?_
  refine cj_reg ?_
  refine lp rfl (p_mv rfl) ?_
  refine lp rfl (p_mv rfl) ?_
  refine lp rfl (p_tousp Tryz.underlying53 Tryz.underlying142 hi (by rw [hsz]; decide) (k := 0) rfl rfl rfl) ?_
  refine lp rfl (p_ext_call (noEsc _) rfl rfl) ?_
  refine lp rfl (p_frusp Tryz.underlying142 Tryz.underlying53 hi (k := 0) rfl (by kernel_rfl) rfl) ?_
  refine lp rfl (p_nc rfl) ?_
  refine lp rfl (p_fab flB_0' rfl) ?_
  refine r_sb (vs := [.pointer (some ⟨b, 0, none⟩)]) (j := 0) tyPB' rfl rfl rfl rfl rfl rfl rfl ?_
  refine lj_nil ?_
  exact nj_rt () [0] Tryz.results44 .nil rfl rfl
theorem ok_copyCheck_used (b : Nat) (v : SV) :
    Ctr Tryz.prog 44 [.pointer (some ⟨b, 0, none⟩)].toArray [.box b 56 [.pointer (some ⟨b, 0, none⟩), v.v]] [] (X := Unit) (fun _ => .tuple #[]) (fun _ => [.box b 56 [.pointer (some ⟨b, 0, none⟩), v.v]]) := by
  refine ctr_mk (vs := [(0, .pointer (some ⟨b, 0, none⟩))]) Tryz.func44 rfl Tryz.ntmps44 rfl ⟨rfl, trivial⟩ (fun w0 A => ?_)
  obtain ⟨i, -, hi, -, -, hsz, -⟩ := ty56.info
  refine cj_seq ?_
  refine cj_reg ?_
  refine lp rfl (p_mv rfl) ?_
  refine lp rfl (p_nc rfl) ?_
  refine lp rfl (p_fab flB_0' rfl) ?_
  refine lp rfl (p_lbs tyPB' rfl (j := 0) rfl rfl) ?_
  refine lp rfl (p_eqpn Tryz.underlying53 rfl rfl) ?_
  refine lj_seq ?_
  refine cj_if_f rfl ?_
  refine cj_seq ?_
  refine cj_reg ?_
  refine lp rfl (p_mv rfl) ?_
  refine lp rfl (p_nc rfl) ?_
  refine lp rfl (p_fab flB_0' rfl) ?_
  refine lp rfl (p_lbs tyPB' rfl (j := 0) rfl rfl) ?_
  refine lp rfl (p_mv rfl) ?_
  refine lp rfl (p_nepp Tryz.underlying53 hi rfl rfl) ?_
  refine lj_seq ?_
  refine cj_if_f rfl ?_
  refine cj_skip ?_
  exact nj_rt () [0] Tryz.results44 .nil rfl rfl
theorem ok_copyCheck (b : Nat) (q : Option Addr) (v : SV) (hq : q = none ∨ q = some ⟨b, 0, none⟩) :
    Ctr Tryz.prog 44 [.pointer (some ⟨b, 0, none⟩)].toArray [.box b 56 [.pointer q, v.v]] [] (X := Unit) (fun _ => .tuple #[]) (fun _ => [.box b 56 [.pointer (some ⟨b, 0, none⟩), v.v]]) := by
  rcases hq with rfl | rfl
  · exact ok_copyCheck_fresh b v
  · exact ok_copyCheck_used b v
theorem ok_bWriteString (b : Nat) (s : SV) (c t : ByteArray) {y : ByteArray} (hm : m_bWriteString c t = some y) :
    Ctr Tryz.prog 21 [.pointer (some ⟨b, 0, none⟩), .string t].toArray [.obj (bldO 56 5 b s c.data.toList)] [] (X := SV) (fun _ => .tuple #[.int .i64 t.size, .nilIface]) (fun s' => [.obj (bldO 56 5 b s' y.data.toList)]) := by
  unfold m_bWriteString at hm
  split at hm
  case isFalse => cases hm
  rename_i hle
  obtain rfl := Option.some.inj hm
  have hcs : c.data.toList.length = c.size := by simp
  have hcat : (c ++ t).data.toList = c.data.toList ++ t.data.toList := by simp
  refine ctr_mk (vs := [(0, .pointer (some ⟨b, 0, none⟩)), (1, .string t)]) Tryz.func21 rfl Tryz.ntmps21 rfl ⟨rfl, rfl, trivial⟩ (fun w0 A => ?_)
  refine cj_openB (fun q hq h1 h2 => ?_)
  refine cj_seq ?_
  refine cj_reg ?_
  refine lp rfl (p_as rfl) ?_
  refine lp rfl (p_as rfl) ?_
  refine lj_seq ?_
  refine cj_seq ?_
  refine cj_reg ?_
  refine lp rfl (p_mv rfl) ?_
  refine r_call [0] cfCC' rfl rfl (ok_copyCheck b q s hq) rfl rfl .nil (fun _ => rfl) rfl (fun _ => ?_)
  refine lj_seq ?_
  refine cj_seq ?_
  refine cj_reg ?_
  refine lp rfl (p_mv rfl) ?_
  refine lp rfl (p_mv rfl) ?_
  refine lp rfl (p_nc rfl) ?_
  refine lp rfl (p_fab flB_1' rfl) ?_
  refine lp rfl (p_lbs tyBS' rfl (j := 0) rfl rfl) ?_
  refine lp rfl (p_mv rfl) ?_
  refine r_apps (k := 1) Tryz.underlying54 Tryz.underlying9 ty5' rfl rfl rfl (by rw [hcs]; exact hle) h1 rfl (fun s' g1 g2 => ?_)
  refine lp rfl (p_nc rfl) ?_
  refine lp rfl (p_fab flB_1' rfl) ?_
  refine r_sb (vs := [s'.v]) (j := 0) tyBS' rfl rfl rfl rfl rfl rfl rfl ?_
  refine lj_seq ?_
  refine cj_seq ?_
  refine cj_reg ?_
  refine lp rfl (p_mv rfl) ?_
  refine lp rfl (p_lens Tryz.underlying9 rfl) ?_
  refine lp rfl (p_as rfl) ?_
  refine lp rfl (p_as rfl) ?_
  refine lj_seq ?_
  rw [← hcat] at g1 g2
  refine cj_closeB (q := some ⟨b, 0, none⟩) (s := s') (bs := (c ++ t).data.toList) (.inr rfl) g1 g2 ?_
  exact cj_rt s' [0] Tryz.results21 (.tmp rfl (.tmp rfl .nil)) rfl rfl
theorem bldX : Builder.Extra Tryz.prog Tryz.lays156_ren where
  sizeBuilder := by kernel_rfl
  liesBuilder := by kernel_rfl
  t5 := Tryz.underlying5
  a5 := Tryz.isAgg5
  z5 := Tryz.sizeOf5
  v5 := Tryz.zeroValue5
  infoByte := by kernel_rfl
  cellsByte := by kernel_rfl
  sizeByte := by kernel_rfl
  neB5 := by decide
theorem ok_strings_Join (s0_ : SV) (a0 : List ByteArray) (a1 : ByteArray) {r : ByteArray} (hm : m_strings_Join a0 a1 = some r) :
    Ctr Tryz.prog 45 [s0_.v, .string a1].toArray ([] : List Ent) [RdS R9 (SV.v s0_) a0] (X := Unit) (fun _ => .string r) (fun _ => []) := by
  unfold m_strings_Join at hm
  split at hm
  case isFalse => cases hm
  rename_i h
  obtain rfl := Option.some.inj hm
  refine Ctr.of_below fun w hF => ?_
  have hr : RdS R9 (SV.v s0_) a0 w := hF _ (List.mem_cons_self ..)
  have nn : ∀ (o : Option Addr) (c : Nat), a0 = [] → Calls Tryz.prog 45 #[.slice o 0 c, .string a1] w fun e w' => e = .returned (.string ⟨(Lib.join (a0.map (·.data.toList)) a1.data.toList).toArray⟩) ∧ Go.RowKit.Below w.heap.size w w' := fun o c h0 => by
    subst h0
    exact (Any.strings_Join_none Tryz.lays156 bldX o c a1 w).mono fun e w' ⟨he, hw⟩ => ⟨he, hw ▸ Go.RowKit.Below.refl _ _⟩
  rcases hr.2 with ⟨h0, x, cap, h1, h2⟩ | ⟨b, off, cap, h1, h2, h3, h4⟩
  · rw [h1]
    exact nn x cap h0
  · rw [h1]
    by_cases h0 : a0 = []
    · have hl : a0.length = 0 := by rw [h0]; rfl
      rw [hl]
      exact nn _ cap h0
    · have hc : ∀ (j : Nat) x, a0[j]? = some x → w.cell? ⟨b, off + j, none⟩ = some (.string x) := fun j x hx => by
        refine h4 j _ ?_
        have h := R9.cells_get a0 j 0 x hx (by decide)
        have e : j * R9.sz + 0 = j := by show j * 1 + 0 = j; omega
        rw [e] at h; exact h
      have hb : b < w.heap.size := by
        obtain ⟨y, ys, hy⟩ : ∃ y ys, a0 = y :: ys := by
          cases a0 with
          | nil => exact absurd rfl h0
          | cons y ys => exact ⟨y, ys, rfl⟩
        exact World.block_lt_of_cell? _ _ (hc 0 y (by rw [hy]; rfl))
      exact Any.strings_Join Tryz.lays156 bldX b off cap a0 a1 w hc hb h.1 h2 h.2
def MaxT (w : World) : Prop := ∃ m : Int, w.cell? ⟨0, 0, none⟩ = some (.int .i64 m)
theorem cellsStr (zs : List ByteArray) : R9.cells zs = zs.map Value.string := by
  show zs.flatMap (fun x => [Value.string x]) = _
  rw [List.map_eq_flatMap]
theorem ok_strings_Split (a0 a1 : ByteArray) {r : List ByteArray} (hm : m_strings_Split a0 a1 = some r) :
    Ctr Tryz.prog 50 [.string a0, .string a1].toArray ([] : List Ent) [MaxT] (X := SV) (fun s => s.v) (fun s => [.row R9 (SV.v s) r]) := by
  unfold m_strings_Split at hm
  split at hm
  case isFalse => cases hm
  rename_i h
  obtain rfl := Option.some.inj hm
  intro w A hs
  have hF : MaxT w := hs.okr (.ro MaxT) (by simp) w (Same.refl _ _ _ _)
  obtain ⟨m, hx⟩ := hF
  have hlen := Lib.splitB_all a1 h.2 0 _ a0 rfl
  have hle := Lib.countB_le a1 h.2 a0.size a0 (Nat.le_refl _)
  refine (Any.strings_Split Tryz.lays146 (by kernel_rfl) a0 a1 m w h.1 hx h.2).mono ?_
  rintro e w' ⟨rfl, rfl⟩
  refine ⟨⟨some ⟨w.heap.size, 0, none⟩, Lib.countB a0 a1 + 1, Lib.countB a0 a1 + 1⟩, rfl, ?_⟩
  have hs0 : Sat w (keys ([] : List Ent)) A [] w := hs.sublist (by simp)
  have h2 := hs0.newRow R9 (Lib.splitB a1 0 (Lib.countB a0 a1) a0) (cellsStr _) (by rw [hlen]; unfold maxLen; omega)
  rw [hlen] at h2
  exact h2
theorem ok_bLen (b : Nat) (s : SV) (c : ByteArray) :
    Ctr Tryz.prog 23 [.pointer (some ⟨b, 0, none⟩)].toArray [.obj (bldO 56 5 b s c.data.toList)] [] (X := Unit) (fun _ => .int .i64 c.size) (fun _ => [.obj (bldO 56 5 b s c.data.toList)]) := by
  have hcs : c.size = c.data.toList.length := by simp
  rw [hcs]
  refine ctr_mk (vs := [(0, .pointer (some ⟨b, 0, none⟩))]) Tryz.func23 rfl Tryz.ntmps23 rfl ⟨rfl, trivial⟩ (fun w0 A => ?_)
  refine cj_openB (fun q hq h1 h2 => ?_)
  refine cj_seq ?_
  refine cj_reg ?_
  refine lp rfl (p_as rfl) ?_
  refine lj_seq ?_
  refine cj_seq ?_
  refine cj_reg ?_
  refine lp rfl (p_mv rfl) ?_
  refine lp rfl (p_nc rfl) ?_
  refine lp rfl (p_fab flB_1' rfl) ?_
  refine lp rfl (p_lbs tyBS' rfl (j := 0) rfl rfl) ?_
  refine lp rfl (p_len Tryz.underlying54 rfl (.row 1 rfl)) ?_
  refine lp rfl (p_as rfl) ?_
  refine lj_seq ?_
  refine cj_closeB (q := q) (s := s) (bs := c.data.toList) hq h1 h2 ?_
  exact cj_rt () [0] Tryz.results23 (.tmp rfl .nil) rfl rfl
theorem ok_bString (b : Nat) (s : SV) (c : ByteArray) :
    Ctr Tryz.prog 24 [.pointer (some ⟨b, 0, none⟩)].toArray [.obj (bldO 56 5 b s c.data.toList)] [] (X := Unit) (fun _ => .string c) (fun _ => []) := by
  have hcs : c = ⟨c.data.toList.toArray⟩ := rfl
  refine ctr_mk (vs := [(0, .pointer (some ⟨b, 0, none⟩))]) Tryz.func24 rfl Tryz.ntmps24 rfl ⟨rfl, trivial⟩ (fun w0 A => ?_)
  refine cj_openB (fun q hq h1 h2 => ?_)
  refine cj_seq ?_
  refine cj_reg ?_
  refine lp rfl (p_as rfl) ?_
  refine lj_seq ?_
  refine cj_seq ?_
  refine cj_tail 10 (by kernel_rfl) (by kernel_rfl) ?_
  refine s_p rfl (p_mv rfl) ?_
  refine s_p rfl (p_nc rfl) ?_
  refine s_p rfl (p_fab flB_1' rfl) ?_
  refine s_p rfl (p_lbs tyBS' rfl (j := 0) rfl rfl) ?_
  refine s_p rfl (p_usd rfl (.row 1 rfl) h1) ?_
  refine s_p rfl (p_mv rfl) ?_
  refine s_p rfl (p_nc rfl) ?_
  refine s_p rfl (p_fab flB_1' rfl) ?_
  refine s_p rfl (p_lbs tyBS' rfl (j := 0) rfl rfl) ?_
  refine s_p rfl (p_len Tryz.underlying54 rfl (.row 1 rfl)) ?_
  refine s_nil ?_
  refine r_ustr (k := 1) Tryz.underlying103 (by kernel_rfl) rfl rfl rfl h1 rfl ?_
  refine lp rfl (p_as rfl) ?_
  refine lj_seq ?_
  exact cj_rt () [] Tryz.results24 (.tmp rfl .nil) rfl rfl
end Go.Proofs.YtlhfimbpjdfdgacGreatDoor
