/- The walks. Written by program. -/
import Derived.Test.YtdeoejkgmeemaacGreatDoorW2
namespace Go.Proofs.YtdeoejkgmeemaacGreatDoor
open Go Go.J Go.G
set_option maxRecDepth 100000
set_option linter.unusedVariables false
set_option linter.unusedSimpArgs false
theorem ok_gleekeep2_ready  {r : Bool} (hm : m_gleekeep2_ready  = some r) :
    Ctr Tryz.prog 14 [].toArray ([] : List Ent) [PowT] (X := Unit) (fun _ => .bool r) (fun _ => []) := by
  unfold m_gleekeep2_ready at hm
  refine ctr_mk (vs := []) Tryz.func14 rfl Tryz.ntmps14 rfl trivial (fun w0 A => ?_)
  refine cj_seq ?_
  refine cj_reg ?_
  refine lp rfl (p_as rfl) ?_
  refine lj_seq ?_
  refine cj_seq ?_
  refine cj_reg ?_
  refine lp rfl (p_bld [.int .i64 1, .int .i64 4, .int .i64 2, .int .i64 0, .bool true] rfl (fun _ => by kernel_rfl)) ?_
  refine r_bs R62 [(TBar.mk 1 4 2 0 true)] rfl rfl rfl (fun _ => by kernel_rfl) rfl (fun s1 => ?_)
  obtain ⟨y2, hy2, hm⟩ := bindS hm
  refine r_call [] cf26 rfl rfl (ok_piece_Order s1 [(TBar.mk 1 4 2 0 true)] hy2) rfl rfl (.cons (.row 0 rfl) .nil) (fun _ => rfl) rfl (fun s3 => ?_)
  refine lp rfl (p_mv rfl) ?_
  refine lp rfl (p_ext rfl rfl) ?_
  refine lp rfl (p_ext rfl rfl) ?_
  refine lp rfl (p_as rfl) ?_
  refine lp rfl (p_as rfl) ?_
  refine lj_seq ?_
  refine cj_seq ?_
  refine cj_reg ?_
  refine lp rfl (p_bld [.int .i64 1, .int .i64 2, .int .i64 1] rfl (fun _ => by kernel_rfl)) ?_
  obtain ⟨y4, hy4, hm⟩ := bindS hm
  refine r_call [] cf27 rfl rfl (ok_chord_Name (TChord.mk 1 2 1) hy4) rfl rfl (.cons (.ro 2 rfl) .nil) (fun _ => rfl) rfl (fun _ => ?_)
  refine lp rfl (p_mv rfl) ?_
  refine lp rfl (p_ext rfl rfl) ?_
  refine lp rfl (p_ext rfl rfl) ?_
  refine lp rfl (p_as rfl) ?_
  refine lp rfl (p_as rfl) ?_
  refine lj_seq ?_
  refine cj_seq ?_
  refine cj_reg ?_
  refine lp rfl (p_bld [.int .i64 5, .string (ByteArray.mk [97, 110, 110].toArray), .bool false] rfl (fun _ => by kernel_rfl)) ?_
  refine r_bs R70 [(TCame.mk 5 (ByteArray.mk [97, 110, 110].toArray) false)] rfl rfl rfl (fun _ => by kernel_rfl) rfl (fun s5 => ?_)
  obtain ⟨y6, hy6, hm⟩ := bindS hm
  refine r_call [] cf28 rfl rfl (ok_rehearse_There s5 [(TCame.mk 5 (ByteArray.mk [97, 110, 110].toArray) false)] 6 hy6) rfl rfl (.cons (.row 0 rfl) .nil) (fun _ => rfl) rfl (fun s7 => ?_)
  refine lp rfl (p_mv rfl) ?_
  refine lp rfl (p_ext rfl rfl) ?_
  refine lp rfl (p_ext rfl rfl) ?_
  refine lp rfl (p_as rfl) ?_
  refine lp rfl (p_as rfl) ?_
  refine lj_seq ?_
  refine cj_seq ?_
  refine cj_reg ?_
  refine r_bs R9 [(ByteArray.mk [97, 108, 116, 111].toArray)] rfl rfl rfl (fun _ => by kernel_rfl) rfl (fun s8 => ?_)
  refine lp rfl (p_bld [.string (ByteArray.mk [97].toArray), .string (ByteArray.mk [112].toArray), .int .i64 7, s8.v] rfl (fun _ => by kernel_rfl)) ?_
  refine r_fz 0 rfl ?_
  refine r_fact (F := Lk N37 [(TItem.mk (ByteArray.mk [97].toArray) (ByteArray.mk [112].toArray) 7 [(ByteArray.mk [97, 108, 116, 111].toArray)])] [((TItem.mk (ByteArray.mk [97].toArray) (ByteArray.mk [112].toArray) 7 [(ByteArray.mk [97, 108, 116, 111].toArray)]), s8)]) (.imp (.and (.ro 0 rfl) (.nilL N37)) (fun _ h => Lk.cons h.1 h.2)) ?_
  have hLs9 : (([((TItem.mk (ByteArray.mk [97].toArray) (ByteArray.mk [112].toArray) 7 [(ByteArray.mk [97, 108, 116, 111].toArray)]), s8)] : List (TItem × SV)).map Prod.fst) = ([(TItem.mk (ByteArray.mk [97].toArray) (ByteArray.mk [112].toArray) 7 [(ByteArray.mk [97, 108, 116, 111].toArray)])] : List TItem) := rfl
  refine r_bs N37.R [((TItem.mk (ByteArray.mk [97].toArray) (ByteArray.mk [112].toArray) 7 [(ByteArray.mk [97, 108, 116, 111].toArray)]), s8)] rfl rfl rfl (fun _ => by kernel_rfl) rfl (fun s9 => ?_)
  refine lp rfl (p_bld [s9.v, .int .i64 0, .int .i64 0, .int .i64 0, .int .i64 (-1)] rfl (fun _ => by kernel_rfl)) ?_
  obtain ⟨y10, hy10, hm⟩ := bindS hm
  refine r_call [] cf12 rfl rfl (ok_concert_Long (TProgram.mk [(TItem.mk (ByteArray.mk [97].toArray) (ByteArray.mk [112].toArray) 7 [(ByteArray.mk [97, 108, 116, 111].toArray)])] 0 0 0 (-1)) s9 [((TItem.mk (ByteArray.mk [97].toArray) (ByteArray.mk [112].toArray) 7 [(ByteArray.mk [97, 108, 116, 111].toArray)]), s8)] hy10) rfl rfl (.cons (.ro 1 rfl) (.cons (.row 0 rfl) .nil)) (fun _ => rfl) rfl (fun _ => ?_)
  refine lp rfl (p_mv rfl) ?_
  refine lp rfl (p_ext rfl rfl) ?_
  refine lp rfl (p_ext rfl rfl) ?_
  refine lp rfl (p_as rfl) ?_
  refine lp rfl (p_as rfl) ?_
  refine lj_seq ?_
  refine cj_seq ?_
  refine cj_reg ?_
  refine lp rfl (p_bld [.string (ByteArray.mk [97].toArray), .int .i64 1, .int .i64 0, .int .i64 1, .string (ByteArray.mk [97, 110, 110].toArray), .string ByteArray.empty, .int .i64 0, .bool false, .string ByteArray.empty, .int .i64 0] rfl (fun _ => by kernel_rfl)) ?_
  refine r_bs R74 [(TAct.mk (ByteArray.mk [97].toArray) 1 0 1 (ByteArray.mk [97, 110, 110].toArray) ByteArray.empty 0 false ByteArray.empty 0)] rfl rfl rfl (fun _ => by kernel_rfl) rfl (fun s11 => ?_)
  obtain ⟨y12, hy12, hm⟩ := bindS hm
  refine r_call [] cf29 rfl rfl (ok_club_Members s11 [(TAct.mk (ByteArray.mk [97].toArray) 1 0 1 (ByteArray.mk [97, 110, 110].toArray) ByteArray.empty 0 false ByteArray.empty 0)] 0 hy12) rfl rfl (.cons (.row 0 rfl) .nil) (fun _ => rfl) rfl (fun s13 => ?_)
  refine lp rfl (p_mv rfl) ?_
  refine lp rfl (p_ext rfl rfl) ?_
  refine lp rfl (p_ext rfl rfl) ?_
  refine lp rfl (p_as rfl) ?_
  refine lp rfl (p_as rfl) ?_
  refine lj_seq ?_
  refine cj_seq ?_
  refine cj_reg ?_
  refine lp rfl (p_mv rfl) ?_
  refine lp rfl (p_mv rfl) ?_
  refine lp rfl (p_mv rfl) ?_
  refine lp rfl (p_mv rfl) ?_
  refine lp rfl (p_mv rfl) ?_
  refine r_bs R32 [y2.2, y4.2, y6.2, y10.2, y12.2] rfl rfl rfl (fun _ => by kernel_rfl) rfl (fun s14 => ?_)
  obtain ⟨y15, hy15, hm⟩ := bindS hm
  refine r_call [] cf30 rfl rfl (ok_gleekeep2_errs s14 [y2.2, y4.2, y6.2, y10.2, y12.2] hy15) rfl rfl (.cons (.row 0 rfl) .nil) (fun _ => rfl) rfl (fun _ => ?_)
  refine lp rfl (p_eql rfl rfl) ?_
  refine lp rfl (p_mv rfl) ?_
  refine lcase (i := 50) (y15 == 0) rfl (fun hb => ?_) (fun hb => ?_)
  · have hm := ifB_t hb hm
    refine lg true rfl rfl rfl ?_
    refine lp rfl (p_mv rfl) ?_
    refine lg true rfl rfl rfl ?_
    refine lp rfl (p_len Tryz.underlying22 rfl (.row 8 rfl)) ?_
    refine lg true rfl rfl rfl ?_
    refine lp rfl (p_eql rfl rfl) ?_
    refine lp rfl (p_pkt rfl rfl) ?_
    refine lp rfl (p_mv rfl) ?_
    refine lcase (i := 55) ((y2.1.length : Int) == 2) rfl (fun hb => ?_) (fun hb => ?_)
    · have hm := ifB_t hb hm
      refine lg true rfl rfl rfl ?_
      refine lp rfl (p_mv rfl) ?_
      refine lg true rfl rfl rfl ?_
      refine lp rfl (p_eqs rfl rfl) ?_
      refine lp rfl (p_pkt rfl rfl) ?_
      refine lp rfl (p_mv rfl) ?_
      refine lcase (i := 59) (y4.1.toList == (ByteArray.mk [99, 35, 32, 109, 105, 110, 47, 49].toArray).toList) rfl (fun hb => ?_) (fun hb => ?_)
      · have hm := ifB_t hb hm
        refine lg true rfl rfl rfl ?_
        refine lp rfl (p_mv rfl) ?_
        refine lg true rfl rfl rfl ?_
        refine lp rfl (p_len Tryz.underlying31 rfl (.row 6 rfl)) ?_
        refine lg true rfl rfl rfl ?_
        refine lp rfl (p_eql rfl rfl) ?_
        refine lp rfl (p_pkt rfl rfl) ?_
        refine lp rfl (p_mv rfl) ?_
        refine lcase (i := 64) ((y6.1.length : Int) == 1) rfl (fun hb => ?_) (fun hb => ?_)
        · have hm := ifB_t hb hm
          refine lg true rfl rfl rfl ?_
          refine lp rfl (p_mv rfl) ?_
          refine lg true rfl rfl rfl ?_
          refine lp rfl (p_eql rfl rfl) ?_
          refine lp rfl (p_pkt rfl rfl) ?_
          refine lp rfl (p_mv rfl) ?_
          refine lcase (i := 68) (y10.1 == 7) rfl (fun hb => ?_) (fun hb => ?_)
          · have hm := ifB_t hb hm
            refine lg true rfl rfl rfl ?_
            refine lp rfl (p_mv rfl) ?_
            refine lg true rfl rfl rfl ?_
            refine lp rfl (p_len Tryz.underlying31 rfl (.row 1 rfl)) ?_
            refine lg true rfl rfl rfl ?_
            refine lp rfl (p_eql rfl rfl) ?_
            refine lp rfl (p_pkt rfl rfl) ?_
            refine lp rfl (p_as rfl) ?_
            refine lj_seq ?_
            obtain rfl := Option.some.inj hm
            exact cj_rt () [] Tryz.results14 (.tmp rfl .nil) rfl rfl
          · have hm := ifB_f hb hm
            refine ls true rfl rfl rfl rfl ?_
            refine ls true rfl rfl rfl rfl ?_
            refine ls true rfl rfl rfl rfl ?_
            refine lp rfl (p_pkf rfl rfl) ?_
            refine lp rfl (p_as rfl) ?_
            refine lj_seq ?_
            obtain rfl := Option.some.inj hm
            exact cj_rt () [] Tryz.results14 (.tmp rfl .nil) rfl rfl
        · have hm := ifB_f hb hm
          refine ls true rfl rfl rfl rfl ?_
          refine ls true rfl rfl rfl rfl ?_
          refine lp rfl (p_pkf rfl rfl) ?_
          refine lp rfl (p_mv rfl) ?_
          refine ls true rfl rfl rfl rfl ?_
          refine ls true rfl rfl rfl rfl ?_
          refine ls true rfl rfl rfl rfl ?_
          refine lp rfl (p_pkf rfl rfl) ?_
          refine lp rfl (p_as rfl) ?_
          refine lj_seq ?_
          obtain rfl := Option.some.inj hm
          exact cj_rt () [] Tryz.results14 (.tmp rfl .nil) rfl rfl
      · have hm := ifB_f hb hm
        refine ls true rfl rfl rfl rfl ?_
        refine ls true rfl rfl rfl rfl ?_
        refine ls true rfl rfl rfl rfl ?_
        refine lp rfl (p_pkf rfl rfl) ?_
        refine lp rfl (p_mv rfl) ?_
        refine ls true rfl rfl rfl rfl ?_
        refine ls true rfl rfl rfl rfl ?_
        refine lp rfl (p_pkf rfl rfl) ?_
        refine lp rfl (p_mv rfl) ?_
        refine ls true rfl rfl rfl rfl ?_
        refine ls true rfl rfl rfl rfl ?_
        refine ls true rfl rfl rfl rfl ?_
        refine lp rfl (p_pkf rfl rfl) ?_
        refine lp rfl (p_as rfl) ?_
        refine lj_seq ?_
        obtain rfl := Option.some.inj hm
        exact cj_rt () [] Tryz.results14 (.tmp rfl .nil) rfl rfl
    · have hm := ifB_f hb hm
      refine ls true rfl rfl rfl rfl ?_
      refine ls true rfl rfl rfl rfl ?_
      refine lp rfl (p_pkf rfl rfl) ?_
      refine lp rfl (p_mv rfl) ?_
      refine ls true rfl rfl rfl rfl ?_
      refine ls true rfl rfl rfl rfl ?_
      refine ls true rfl rfl rfl rfl ?_
      refine lp rfl (p_pkf rfl rfl) ?_
      refine lp rfl (p_mv rfl) ?_
      refine ls true rfl rfl rfl rfl ?_
      refine ls true rfl rfl rfl rfl ?_
      refine lp rfl (p_pkf rfl rfl) ?_
      refine lp rfl (p_mv rfl) ?_
      refine ls true rfl rfl rfl rfl ?_
      refine ls true rfl rfl rfl rfl ?_
      refine ls true rfl rfl rfl rfl ?_
      refine lp rfl (p_pkf rfl rfl) ?_
      refine lp rfl (p_as rfl) ?_
      refine lj_seq ?_
      obtain rfl := Option.some.inj hm
      exact cj_rt () [] Tryz.results14 (.tmp rfl .nil) rfl rfl
  · have hm := ifB_f hb hm
    refine ls true rfl rfl rfl rfl ?_
    refine ls true rfl rfl rfl rfl ?_
    refine ls true rfl rfl rfl rfl ?_
    refine lp rfl (p_pkf rfl rfl) ?_
    refine lp rfl (p_mv rfl) ?_
    refine ls true rfl rfl rfl rfl ?_
    refine ls true rfl rfl rfl rfl ?_
    refine lp rfl (p_pkf rfl rfl) ?_
    refine lp rfl (p_mv rfl) ?_
    refine ls true rfl rfl rfl rfl ?_
    refine ls true rfl rfl rfl rfl ?_
    refine ls true rfl rfl rfl rfl ?_
    refine lp rfl (p_pkf rfl rfl) ?_
    refine lp rfl (p_mv rfl) ?_
    refine ls true rfl rfl rfl rfl ?_
    refine ls true rfl rfl rfl rfl ?_
    refine lp rfl (p_pkf rfl rfl) ?_
    refine lp rfl (p_mv rfl) ?_
    refine ls true rfl rfl rfl rfl ?_
    refine ls true rfl rfl rfl rfl ?_
    refine ls true rfl rfl rfl rfl ?_
    refine lp rfl (p_pkf rfl rfl) ?_
    refine lp rfl (p_as rfl) ?_
    refine lj_seq ?_
    obtain rfl := Option.some.inj hm
    exact cj_rt () [] Tryz.results14 (.tmp rfl .nil) rfl rfl
theorem ok_gleekeep2_FittingFits (s0_ : SV) (a0 : (List Int)) {r : Bool} (hm : m_gleekeep2_FittingFits a0 = some r) :
    Ctr Tryz.prog 3 [s0_.v].toArray ([] : List Ent) [RdS R3 (SV.v s0_) a0, PowT] (X := Unit) (fun _ => .bool r) (fun _ => []) := by
  unfold m_gleekeep2_FittingFits at hm
  refine ctr_mk (vs := [(0, s0_.v)]) Tryz.func3 rfl Tryz.ntmps3 rfl ⟨rfl, trivial⟩ (fun w0 A => ?_)
  refine cj_seq ?_
  refine cj_reg ?_
  refine lp rfl (p_as rfl) ?_
  refine lj_seq ?_
  refine cj_seq ?_
  refine cj_reg ?_
  refine lp rfl (p_mv rfl) ?_
  refine lp rfl (p_bld [s0_.v, .int .i64 0] rfl (fun _ => by kernel_rfl)) ?_
  refine r_bx (cs := [s0_.v, .int .i64 0]) rfl rfl rfl (fun b1 => ?_)
  refine lp rfl (p_as rfl) ?_
  refine lj_seq ?_
  refine cj_seq ?_
  refine cj_reg ?_
  refine lp rfl (p_mv rfl) ?_
  obtain ⟨y2, hy2, hm⟩ := bindS hm
  refine r_callN [0] cf4 rfl rfl (ok_gleemake_Stream_RightProgram b1 s0_ a0 0 5 hy2) rfl rfl (.cons (.ro 0 rfl) .nil) rfl (fun ⟨s3, xg4⟩ => ?_)
  refine r_pure (F := Lk N37 y2.1.Items xg4) (.ro 1 rfl) (fun _ h => h.1) (fun hLs3 => ?_)
  refine lp rfl (p_mv rfl) ?_
  obtain ⟨y5, hy5, hm⟩ := bindS hm
  refine r_call [2] cf5 rfl rfl (ok_gleemake_Stream_Range b1 s0_ a0 y2.2 0 900 hy5) rfl rfl (.cons (.ro 2 rfl) .nil) (fun _ => rfl) rfl (fun _ => ?_)
  refine r_al ty28 rfl (fun b6 => ?_)
  refine r_sb (vs := [s3.v, .int .i64 y2.1.Change, .int .i64 y2.1.Clap, .int .i64 y2.1.Break, .int .i64 y2.1.Half]) (j := 0) ty28 rfl rfl rfl rfl rfl rfl rfl ?_
  refine lp rfl (p_as rfl) ?_
  refine lj_seq ?_
  refine cj_seq ?_
  refine cj_reg ?_
  refine lp rfl (p_lbw ty28 rfl (j := 0) rfl rfl) ?_
  refine lp rfl (p_mv rfl) ?_
  obtain ⟨y7, hy7, hm⟩ := bindS hm
  refine r_call [] cf6 rfl rfl (ok_concert_Fitting y2.1 s3 xg4 y5.1 hy7) rfl rfl (.cons (.ro 3 rfl) (.cons (.row 2 rfl) .nil)) (fun _ => rfl) rfl (fun s8 => ?_)
  refine lp rfl (p_mv rfl) ?_
  refine lp rfl (p_ext rfl rfl) ?_
  refine lp rfl (p_ext rfl rfl) ?_
  refine lp rfl (p_as rfl) ?_
  refine lp rfl (p_as rfl) ?_
  refine lj_seq ?_
  refine cj_seq ?_
  refine cj_seq ?_
  refine cj_reg ?_
  refine lp rfl (p_mv rfl) ?_
  refine lp rfl (p_neq rfl rfl) ?_
  refine lj_seq ?_
  refine cj_if (b := y7.2 != 0) rfl (fun hb => ?_) (fun hb => ?_)
  · have hm := ifB_t hb hm
    refine cj_seq ?_
    refine cj_reg ?_
    refine lp rfl (p_as rfl) ?_
    refine lj_seq ?_
    obtain rfl := Option.some.inj hm
    exact cj_rt () [] Tryz.results3 (.tmp rfl .nil) rfl rfl
  · have hm := ifB_f hb hm
    refine cj_skip ?_
    refine nj_seq ?_
    refine cj_seq ?_
    refine cj_reg ?_
    refine lp rfl (p_fn (cv := [.pointer (some ⟨b6, 0, none⟩)]) rfl) ?_
    refine lp rfl (p_as rfl) ?_
    refine lj_seq ?_
    refine cj_seq ?_
    refine cj_seq ?_
    refine cj_reg ?_
    refine lp rfl (p_mv rfl) ?_
    refine lp rfl (p_mv rfl) ?_
    obtain ⟨y9, hy9, hm⟩ := bindS hm
    refine r_call [] cf7 rfl rfl (ok_gleekeep2_FittingFits_1 s8 y7.1 b6 s3 xg4 y2.1.Items y2.1.Change y2.1.Clap y2.1.Break y2.1.Half hy9) rfl rfl (.cons (.row 0 rfl) (.cons (.imp (.box 1 rfl) (fun _ h => h)) (.cons (.ro 4 rfl) (.cons (.row 3 rfl) .nil)))) (fun _ => rfl) rfl (fun _ => ?_)
    refine lp rfl (p_as rfl) ?_
    refine lj_seq ?_
    refine cj_seq ?_
    refine cj_reg ?_
    obtain ⟨k12, hk12, hm⟩ := bindS hm
    have hRk12 : ∀ t, k12 = .inr t → some t = some r := fun t e => by rw [e] at hm; exact hm
    refine lj_join (σ := Bool) (γ := Unit) (fun u10 => k12 = .inl u10) (fun u10 g11 => [(2, .bool false), (4, .pointer (some ⟨b6, 0, none⟩)), (5, .int .i64 y5.1), (6, s8.v), (8, .func (.func 7) #[] [.pointer (some ⟨b6, 0, none⟩)].toArray), (37, .bool u10)]) (fun u10 g11 => Sat w0 (keys ([] : List Ent)) A [.row R9 (SV.v s8) y7.1, .box b6 28 [s3.v, .int .i64 y2.1.Change, .int .i64 y2.1.Clap, .int .i64 y2.1.Break, .int .i64 y2.1.Half], .row N37.R (SV.v s3) xg4, .ro (Lk N37 y2.1.Items xg4), .ro PowT]) (fun u10 g11 hq => ?_) (fun J cnk12 => ?_)
    · have hm := Sum.fin_l hq hm
      refine cj_if (b := u10) rfl (fun hb => ?_) (fun hb => ?_)
      · have hm := ifB_t hb hm
        refine cj_seq ?_
        refine cj_reg ?_
        refine lp rfl (p_as rfl) ?_
        refine lj_seq ?_
        obtain rfl := Option.some.inj hm
        exact cj_rt () [] Tryz.results3 (.tmp rfl .nil) rfl rfl
      · have hm := ifB_f hb hm
        refine cj_skip ?_
        refine nj_seq ?_
        refine cj_seq ?_
        refine cj_seq ?_
        refine cj_reg ?_
        refine lp rfl (p_fab fl28_0 rfl) ?_
        refine lp rfl (p_lbs ty26 rfl (j := 1) rfl rfl) ?_
        refine lp rfl (p_lenG hLs3 Tryz.underlying26 rfl (.row 2 rfl)) ?_
        refine lp rfl (p_mv rfl) ?_
        refine lj_seq ?_
        obtain ⟨f19, hf19, hm⟩ := bindS hm
        refine cj_range (γ := Unit) (m := (y2.1.Items.length : Int)) hf19 () (fun u16 g17 => [(2, .bool false), (5, .int .i64 y5.1), (6, s8.v), (8, .func (.func 7) #[] [.pointer (some ⟨b6, 0, none⟩)].toArray), (39, s3.v)]) (fun u16 g17 => Sat w0 (keys ([] : List Ent)) A [.row R9 (SV.v s8) y7.1, .box b6 28 [s3.v, .int .i64 y2.1.Change, .int .i64 y2.1.Clap, .int .i64 y2.1.Break, .int .i64 y2.1.Half], .row N37.R (SV.v s3) xg4, .ro (Lk N37 y2.1.Items xg4), .ro PowT]) ⟨rfl, rfl, rfl, rfl, rfl, rfl, rfl, trivial⟩ (fun _ h => h.picks [0, 0, 0, 0, 0] rfl) (nat_lt _) (fun _ h => by have h1 := (FactAt.get (F := RdS N37.R (SV.v s3) xg4) (.row 2 rfl) h).1; rw [lk_len hLs3] at h1; exact h1) (fun _ _ => ⟨rfl, rfl, rfl, rfl⟩) ⟨rfl, rfl, rfl, rfl, rfl⟩ rfl rfl rfl (fun u16 g17 e => ?_) (fun aftk18 i13 x14 u16 g17 k18 hx15 hs J hJk18 hBk18 hX I cnk18 => ?_)
        · have hm := Flow.fin_b e hm
          refine nj_seq ?_
          refine cj_seq ?_
          refine cj_reg ?_
          obtain ⟨y37, hy37, hm⟩ := bindS hm
          refine r_call [] cf14 rfl rfl (ok_gleekeep2_ready  hy37) rfl rfl (.cons (.ro 4 rfl) .nil) (fun _ => rfl) rfl (fun _ => ?_)
          refine lp rfl (p_as rfl) ?_
          refine lj_seq ?_
          obtain rfl := Option.some.inj hm
          exact cj_rt () [] Tryz.results3 (.tmp rfl .nil) rfl rfl
        · have hRk18 : ∀ t, k18 = .ret t → some t = some r := fun t e => by rw [hX t e] at hm; exact hm
          have hm := hs
          refine cj_seq ?_
          refine cj_reg ?_
          obtain ⟨gx14, hx15G⟩ := lk_get hLs3 hx15
          refine lp rfl (p_idx Tryz.underlying26 ty37 rfl rfl (.row 2 rfl) (getI_nat.trans hx15G)) ?_
          refine lp rfl (p_leaN (cs := [.string x14.Key, .string x14.Places, .int .i64 x14.Long, gx14.v]) ty37 rfl (.row 2 rfl) hx15G rfl) ?_
          refine r_al ty37 rfl (fun b20 => ?_)
          refine r_sb (vs := [.string x14.Key, .string x14.Places, .int .i64 x14.Long, gx14.v]) (j := 0) ty37 rfl rfl rfl rfl rfl rfl rfl ?_
          refine lj_seq ?_
          refine cj_seq ?_
          obtain ⟨k23, hk23, hm⟩ := bindS hm
          have hRk23 : ∀ t, k23 = .inr t → some t = some k18 := fun t e => by rw [e] at hm; exact hm
          refine cj_joinK (σ := Bool) (γ := Unit) (fun u21 => k23 = .inl u21) (fun u21 g22 => [(2, .bool false), (5, .int .i64 y5.1), (6, s8.v), (8, .func (.func 7) #[] [.pointer (some ⟨b6, 0, none⟩)].toArray), (39, s3.v), (40, .int .i64 (y2.1.Items.length : Int)), (41, .int .i64 (i13 : Int)), (61, .bool u21)]) (fun u21 g22 => Sat w0 (keys ([] : List Ent)) A [.row R9 (SV.v s8) y7.1, .box b6 28 [s3.v, .int .i64 y2.1.Change, .int .i64 y2.1.Clap, .int .i64 y2.1.Break, .int .i64 y2.1.Half], .row N37.R (SV.v s3) xg4, .ro (Lk N37 y2.1.Items xg4), .ro PowT]) (fun u21 g22 hq => ?_) (fun J cnk23 => ?_)
          · have hm := Sum.fin_l hq hm
            refine cj_if (b := u21) rfl (fun hb => ?_) (fun hb => ?_)
            · have hm := ifB_t hb hm
              refine cj_seq ?_
              refine cj_reg ?_
              refine lp rfl (p_as rfl) ?_
              refine lj_seq ?_
              have hm := hRk18 _ (Option.some.inj hm).symm
              obtain rfl := Option.some.inj hm
              exact cj_rt () [] Tryz.results3 (.tmp rfl .nil) rfl rfl
            · have hm := ifB_f hb hm
              refine cj_skip ?_
              refine nj_blk ?_
              exact cnk18 _ _ () () (hJk18 _ (Option.some.inj hm).symm) ⟨rfl, rfl, rfl, rfl, rfl, rfl, rfl, trivial⟩ (fun _ h => h.picks [0, 0, 0, 0, 0] rfl)
          · have hm := hk23
            obtain ⟨y24, hy24, hm⟩ := bindS hm
            refine cj_anyT [0, 1, 2, 4, 5, 6, 7, 9, 10, 14, 15] [] (Sat w0 (keys ([] : List Ent)) A [.box b20 37 [.string x14.Key, .string x14.Places, .int .i64 x14.Long, gx14.v], .row R9 (SV.v s8) y7.1, .box b6 28 [s3.v, .int .i64 y2.1.Change, .int .i64 y2.1.Clap, .int .i64 y2.1.Break, .int .i64 y2.1.Half], .row N37.R (SV.v s3) xg4, .ro (Lk N37 y2.1.Items xg4), .ro PowT]) (Sat w0 (keys ([] : List Ent)) A [.box b20 37 [.string x14.Key, .string x14.Places, .int .i64 x14.Long, gx14.v], .row R9 (SV.v s8) y7.1, .box b6 28 [s3.v, .int .i64 y2.1.Change, .int .i64 y2.1.Clap, .int .i64 y2.1.Break, .int .i64 y2.1.Half], .row N37.R (SV.v s3) xg4, .ro (Lk N37 y2.1.Items xg4), .ro PowT]) (by kernel_rfl) ?_
            refine at_take2 0 rfl (by kernel_rfl) (by kernel_rfl) (by kernel_rfl) (fun _ h => h.picks [0, 0, 0, 0, 0, 0] rfl) rfl rfl (p_mv rfl) (fun _ h => h.picks [0, 0, 0, 0, 0, 0] rfl) ?_
            refine at_take2 1 rfl (by kernel_rfl) (by kernel_rfl) (by kernel_rfl) (fun _ h => h.picks [0, 0, 0, 0, 0, 0] rfl) rfl rfl (p_fab fl37_0 rfl) (fun _ h => h.picks [0, 0, 0, 0, 0, 0] rfl) ?_
            refine at_take2 2 rfl (by kernel_rfl) (by kernel_rfl) (by kernel_rfl) (fun _ h => h.picks [0, 0, 0, 0, 0, 0] rfl) rfl rfl (p_lbs ty9 rfl (j := 0) rfl rfl) (fun _ h => h.picks [0, 0, 0, 0, 0, 0] rfl) ?_
            refine at_each (rs := [3]) (by kernel_rfl) (by decide) ?_
            refine (.cons rfl (fun I cnI => ?_) .nil)
            · refine r_call [] cf11 rfl rfl (ok_slices_Contains_string_string s8 y7.1 x14.Key hy24) rfl rfl (.cons (.row 1 rfl) .nil) (fun _ => rfl) rfl (fun _ => ?_)
              refine lj_nil ?_
              refine cnI _ _ (sof1 rfl rfl (fun _ h => h.picks [0, 0, 0, 0, 0, 0] rfl)) ?_
              refine at_take2 4 rfl (by kernel_rfl) (by kernel_rfl) (by kernel_rfl) (fun _ h => h.picks [0, 0, 0, 0, 0, 0] rfl) rfl rfl (p_not rfl) (fun _ h => h.picks [0, 0, 0, 0, 0, 0] rfl) ?_
              refine at_take2 5 rfl (by kernel_rfl) (by kernel_rfl) (by kernel_rfl) (fun _ h => h.picks [0, 0, 0, 0, 0, 0] rfl) rfl rfl (p_mv rfl) (fun _ h => h.picks [0, 0, 0, 0, 0, 0] rfl) ?_
              refine at_case (i := 50) (!y24) rfl (fun hb => ?_) (fun hb => ?_)
              · have hm := ifB_t hb hm
                obtain ⟨y25, hy25, hm⟩ := bindS hm
                obtain ⟨q28, hq28, hm⟩ := bindS hm
                obtain ⟨y30, hy30, hm⟩ := bindS hm
                refine at_take2g 6 rfl rfl rfl rfl (by kernel_rfl) (by kernel_rfl) (by kernel_rfl) (fun _ h => h.picks [0, 0, 0, 0, 0, 0] rfl) rfl rfl (p_mv rfl) (fun _ h => h.picks [0, 0, 0, 0, 0, 0] rfl) ?_
                refine at_take2g 7 rfl rfl rfl rfl (by kernel_rfl) (by kernel_rfl) (by kernel_rfl) (fun _ h => h.picks [0, 0, 0, 0, 0, 0] rfl) rfl rfl (p_mv rfl) (fun _ h => h.picks [0, 0, 0, 0, 0, 0] rfl) ?_
                refine at_take2g 9 rfl rfl rfl rfl (by kernel_rfl) (by kernel_rfl) (by kernel_rfl) (fun _ h => h.picks [0, 0, 0, 0, 0, 0] rfl) rfl rfl (p_fab fl37_0 rfl) (fun _ h => h.picks [0, 0, 0, 0, 0, 0] rfl) ?_
                refine at_take2g 10 rfl rfl rfl rfl (by kernel_rfl) (by kernel_rfl) (by kernel_rfl) (fun _ h => h.picks [0, 0, 0, 0, 0, 0] rfl) rfl rfl (p_lbs ty9 rfl (j := 0) rfl rfl) (fun _ h => h.picks [0, 0, 0, 0, 0, 0] rfl) ?_
                refine at_take2g 14 rfl rfl rfl rfl (by kernel_rfl) (by kernel_rfl) (by kernel_rfl) (fun _ h => h.picks [0, 0, 0, 0, 0, 0] rfl) rfl rfl (p_mv rfl) (fun _ h => h.picks [0, 0, 0, 0, 0, 0] rfl) ?_
                refine at_each (rs := [8, 11]) (by kernel_rfl) (by decide) ?_
                refine (.cons rfl (fun I cnI => ?_) (.cons rfl (fun I cnI => ?_) .nil))
                · refine lg true rfl rfl rfl ?_
                  refine r_call [] cf13 rfl rfl (ok_slices_Clone_string_string s8 y7.1 hy25) rfl rfl (.cons (.row 1 rfl) .nil) (fun _ => rfl) rfl (fun s31 => ?_)
                  refine lj_nil ?_
                  refine cnI _ _ (sof1 rfl rfl (fun _ h => h.picks [1, 1, 1, 1, 1, 1] rfl)) ?_
                  refine at_each (rs := [11]) (by kernel_rfl) (by decide) ?_
                  refine (.cons rfl (fun I cnI => ?_) .nil)
                  · refine lg true rfl rfl rfl ?_
                    refine r_bs R9 [x14.Key] rfl rfl rfl (fun _ => by kernel_rfl) rfl (fun s32 => ?_)
                    refine lj_nil ?_
                    refine cnI _ _ (sof1 rfl rfl (fun _ h => h.picks [2, 2, 2, 2, 2, 2] rfl)) ?_
                    refine at_each (rs := [12]) (by kernel_rfl) (by decide) ?_
                    refine (.cons rfl (fun I cnI => ?_) .nil)
                    · refine lg true rfl rfl rfl ?_
                      refine r_app (k := 1) Tryz.underlying31 ty9 rfl rfl rfl rfl (.row 0 rfl) hq28 rfl (fun s33 => ?_)
                      refine lj_nil ?_
                      refine cnI _ _ (sof1 rfl rfl (fun _ h => h.picks [2, 2, 2, 2, 2, 2] rfl)) ?_
                      refine at_each (rs := [13]) (by kernel_rfl) (by decide) ?_
                      refine (.cons rfl (fun I cnI => ?_) .nil)
                      · refine lg true rfl rfl rfl ?_
                        refine r_call [] cf7 rfl rfl (ok_gleekeep2_FittingFits_1 s33 q28 b6 s3 xg4 y2.1.Items y2.1.Change y2.1.Clap y2.1.Break y2.1.Half hy30) rfl rfl (.cons (.row 1 rfl) (.cons (.imp (.box 4 rfl) (fun _ h => h)) (.cons (.ro 6 rfl) (.cons (.row 5 rfl) .nil)))) (fun _ => rfl) rfl (fun _ => ?_)
                        refine lj_nil ?_
                        refine cnI _ _ (sof1 rfl rfl (fun _ h => h.picks [2, 2, 2, 2, 2, 2] rfl)) ?_
                        refine at_take2g 15 rfl rfl rfl rfl (by kernel_rfl) (by kernel_rfl) (by kernel_rfl) (fun _ h => h.picks [0, 0, 0, 0, 0, 0] rfl) rfl rfl (p_leq rfl rfl) (fun _ h => h.picks [2, 2, 2, 2, 2, 2] rfl) ?_
                        refine at_each (rs := [16]) (by kernel_rfl) (by decide) ?_
                        refine (.cons rfl (fun I cnI => ?_) .nil)
                        · refine lp rfl (p_pkt rfl rfl) ?_
                          refine lj_nil ?_
                          refine cnI _ _ (sof1 rfl rfl (fun _ h => h.picks [2, 2, 2, 2, 2, 2] rfl)) ?_
                          refine at_done (by kernel_rfl) ?_
                          exact cnk23 _ _ (decide (y30 ≤ y5.1)) () (Option.some.inj hm).symm ⟨rfl, rfl, rfl, rfl, rfl, rfl, rfl, rfl, trivial⟩ (fun _ h => h.picks [3, 3, 3, 3, 3] rfl)
                · refine lg true rfl rfl rfl ?_
                  refine r_bs R9 [x14.Key] rfl rfl rfl (fun _ => by kernel_rfl) rfl (fun s34 => ?_)
                  refine lj_nil ?_
                  refine cnI _ _ (sof1 rfl rfl (fun _ h => h.picks [1, 1, 1, 1, 1, 1] rfl)) ?_
                  refine at_each (rs := [8]) (by kernel_rfl) (by decide) ?_
                  refine (.cons rfl (fun I cnI => ?_) .nil)
                  · refine lg true rfl rfl rfl ?_
                    refine r_call [] cf13 rfl rfl (ok_slices_Clone_string_string s8 y7.1 hy25) rfl rfl (.cons (.row 2 rfl) .nil) (fun _ => rfl) rfl (fun s35 => ?_)
                    refine lj_nil ?_
                    refine cnI _ _ (sof1 rfl rfl (fun _ h => h.picks [2, 2, 2, 2, 2, 2] rfl)) ?_
                    refine at_each (rs := [12]) (by kernel_rfl) (by decide) ?_
                    refine (.cons rfl (fun I cnI => ?_) .nil)
                    · refine lg true rfl rfl rfl ?_
                      refine r_app (k := 0) Tryz.underlying31 ty9 rfl rfl rfl rfl (.row 1 rfl) hq28 rfl (fun s36 => ?_)
                      refine lj_nil ?_
                      refine cnI _ _ (sof1 rfl rfl (fun _ h => h.picks [2, 2, 2, 2, 2, 2] rfl)) ?_
                      refine at_each (rs := [13]) (by kernel_rfl) (by decide) ?_
                      refine (.cons rfl (fun I cnI => ?_) .nil)
                      · refine lg true rfl rfl rfl ?_
                        refine r_call [] cf7 rfl rfl (ok_gleekeep2_FittingFits_1 s36 q28 b6 s3 xg4 y2.1.Items y2.1.Change y2.1.Clap y2.1.Break y2.1.Half hy30) rfl rfl (.cons (.row 0 rfl) (.cons (.imp (.box 4 rfl) (fun _ h => h)) (.cons (.ro 6 rfl) (.cons (.row 5 rfl) .nil)))) (fun _ => rfl) rfl (fun _ => ?_)
                        refine lj_nil ?_
                        refine cnI _ _ (sof1 rfl rfl (fun _ h => h.picks [2, 2, 2, 2, 2, 2] rfl)) ?_
                        refine at_take2g 15 rfl rfl rfl rfl (by kernel_rfl) (by kernel_rfl) (by kernel_rfl) (fun _ h => h.picks [0, 0, 0, 0, 0, 0] rfl) rfl rfl (p_leq rfl rfl) (fun _ h => h.picks [2, 2, 2, 2, 2, 2] rfl) ?_
                        refine at_each (rs := [16]) (by kernel_rfl) (by decide) ?_
                        refine (.cons rfl (fun I cnI => ?_) .nil)
                        · refine lp rfl (p_pkt rfl rfl) ?_
                          refine lj_nil ?_
                          refine cnI _ _ (sof1 rfl rfl (fun _ h => h.picks [2, 2, 2, 2, 2, 2] rfl)) ?_
                          refine at_done (by kernel_rfl) ?_
                          exact cnk23 _ _ (decide (y30 ≤ y5.1)) () (Option.some.inj hm).symm ⟨rfl, rfl, rfl, rfl, rfl, rfl, rfl, rfl, trivial⟩ (fun _ h => h.picks [3, 3, 3, 3, 3] rfl)
              · have hm := ifB_f hb hm
                refine at_skip 6 rfl rfl rfl rfl (by kernel_rfl) (by kernel_rfl) (by kernel_rfl) rfl rfl ?_
                refine at_skip 7 rfl rfl rfl rfl (by kernel_rfl) (by kernel_rfl) (by kernel_rfl) rfl rfl ?_
                refine at_skip 9 rfl rfl rfl rfl (by kernel_rfl) (by kernel_rfl) (by kernel_rfl) rfl rfl ?_
                refine at_skip 10 rfl rfl rfl rfl (by kernel_rfl) (by kernel_rfl) (by kernel_rfl) rfl rfl ?_
                refine at_skip 14 rfl rfl rfl rfl (by kernel_rfl) (by kernel_rfl) (by kernel_rfl) rfl rfl ?_
                refine at_each (rs := [8, 11]) (by kernel_rfl) (by decide) ?_
                refine (.cons rfl (fun I cnI => ?_) (.cons rfl (fun I cnI => ?_) .nil))
                · refine ls true rfl rfl rfl rfl ?_
                  refine lj_nil ?_
                  refine cnI _ _ (sof1 rfl rfl (fun _ h => h.picks [0, 0, 0, 0, 0, 0] rfl)) ?_
                  refine at_each (rs := [11]) (by kernel_rfl) (by decide) ?_
                  refine (.cons rfl (fun I cnI => ?_) .nil)
                  · refine ls true rfl rfl rfl rfl ?_
                    refine lj_nil ?_
                    refine cnI _ _ (sof1 rfl rfl (fun _ h => h.picks [0, 0, 0, 0, 0, 0] rfl)) ?_
                    refine at_each (rs := [12]) (by kernel_rfl) (by decide) ?_
                    refine (.cons rfl (fun I cnI => ?_) .nil)
                    · refine ls true rfl rfl rfl rfl ?_
                      refine lj_nil ?_
                      refine cnI _ _ (sof1 rfl rfl (fun _ h => h.picks [0, 0, 0, 0, 0, 0] rfl)) ?_
                      refine at_each (rs := [13]) (by kernel_rfl) (by decide) ?_
                      refine (.cons rfl (fun I cnI => ?_) .nil)
                      · refine ls true rfl rfl rfl rfl ?_
                        refine lj_nil ?_
                        refine cnI _ _ (sof1 rfl rfl (fun _ h => h.picks [0, 0, 0, 0, 0, 0] rfl)) ?_
                        refine at_skip 15 rfl rfl rfl rfl (by kernel_rfl) (by kernel_rfl) (by kernel_rfl) rfl rfl ?_
                        refine at_each (rs := [16]) (by kernel_rfl) (by decide) ?_
                        refine (.cons rfl (fun I cnI => ?_) .nil)
                        · refine lp rfl (p_pkf rfl rfl) ?_
                          refine lj_nil ?_
                          refine cnI _ _ (sof1 rfl rfl (fun _ h => h.picks [0, 0, 0, 0, 0, 0] rfl)) ?_
                          refine at_done (by kernel_rfl) ?_
                          exact cnk23 _ _ false () (Option.some.inj hm).symm ⟨rfl, rfl, rfl, rfl, rfl, rfl, rfl, rfl, trivial⟩ (fun _ h => h.picks [1, 1, 1, 1, 1] rfl)
                · refine ls true rfl rfl rfl rfl ?_
                  refine lj_nil ?_
                  refine cnI _ _ (sof1 rfl rfl (fun _ h => h.picks [0, 0, 0, 0, 0, 0] rfl)) ?_
                  refine at_each (rs := [8]) (by kernel_rfl) (by decide) ?_
                  refine (.cons rfl (fun I cnI => ?_) .nil)
                  · refine ls true rfl rfl rfl rfl ?_
                    refine lj_nil ?_
                    refine cnI _ _ (sof1 rfl rfl (fun _ h => h.picks [0, 0, 0, 0, 0, 0] rfl)) ?_
                    refine at_each (rs := [12]) (by kernel_rfl) (by decide) ?_
                    refine (.cons rfl (fun I cnI => ?_) .nil)
                    · refine ls true rfl rfl rfl rfl ?_
                      refine lj_nil ?_
                      refine cnI _ _ (sof1 rfl rfl (fun _ h => h.picks [0, 0, 0, 0, 0, 0] rfl)) ?_
                      refine at_each (rs := [13]) (by kernel_rfl) (by decide) ?_
                      refine (.cons rfl (fun I cnI => ?_) .nil)
                      · refine ls true rfl rfl rfl rfl ?_
                        refine lj_nil ?_
                        refine cnI _ _ (sof1 rfl rfl (fun _ h => h.picks [0, 0, 0, 0, 0, 0] rfl)) ?_
                        refine at_skip 15 rfl rfl rfl rfl (by kernel_rfl) (by kernel_rfl) (by kernel_rfl) rfl rfl ?_
                        refine at_each (rs := [16]) (by kernel_rfl) (by decide) ?_
                        refine (.cons rfl (fun I cnI => ?_) .nil)
                        · refine lp rfl (p_pkf rfl rfl) ?_
                          refine lj_nil ?_
                          refine cnI _ _ (sof1 rfl rfl (fun _ h => h.picks [0, 0, 0, 0, 0, 0] rfl)) ?_
                          refine at_done (by kernel_rfl) ?_
                          exact cnk23 _ _ false () (Option.some.inj hm).symm ⟨rfl, rfl, rfl, rfl, rfl, rfl, rfl, rfl, trivial⟩ (fun _ h => h.picks [1, 1, 1, 1, 1] rfl)
    · have hm := hk12
      refine lp rfl (p_mv rfl) ?_
      refine lp rfl (p_lss rfl rfl) ?_
      refine lp rfl (p_mv rfl) ?_
      refine lcase (i := 33) (decide (y9 < 0)) rfl (fun hb => ?_) (fun hb => ?_)
      · have hm := ifB_t hb hm
        refine ls false rfl rfl rfl rfl ?_
        refine ls false rfl rfl rfl rfl ?_
        refine ls false rfl rfl rfl rfl ?_
        refine lp rfl (p_pkt rfl rfl) ?_
        refine lj_nil ?_
        exact cnk12 _ _ true () (Option.some.inj hm).symm ⟨rfl, rfl, rfl, rfl, rfl, rfl, trivial⟩ (fun _ h => h.picks [0, 0, 1, 1, 2] rfl)
      · have hm := ifB_f hb hm
        refine lg false rfl rfl rfl ?_
        refine lp rfl (p_mv rfl) ?_
        refine lg false rfl rfl rfl ?_
        refine lp rfl (p_mv rfl) ?_
        refine lg false rfl rfl rfl ?_
        refine lp rfl (p_gtr rfl rfl) ?_
        refine lp rfl (p_pkf rfl rfl) ?_
        refine lj_nil ?_
        exact cnk12 _ _ (decide (y9 > y5.1)) () (Option.some.inj hm).symm ⟨rfl, rfl, rfl, rfl, rfl, rfl, trivial⟩ (fun _ h => h.picks [0, 0, 1, 1, 2] rfl)
end Go.Proofs.YtdeoejkgmeemaacGreatDoor
