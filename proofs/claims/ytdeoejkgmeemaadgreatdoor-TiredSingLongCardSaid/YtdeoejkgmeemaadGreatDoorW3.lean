/- The walks. Written by program. -/
import Derived.Test.YtdeoejkgmeemaadGreatDoorW2
namespace Go.Proofs.YtdeoejkgmeemaadGreatDoor
open Go Go.J Go.G
set_option maxRecDepth 100000
set_option linter.unusedVariables false
set_option linter.unusedSimpArgs false
theorem ok_gleekeep2_ready  {r : Bool} (hm : m_gleekeep2_ready  = some r) :
    Ctr Tryz.prog 11 [].toArray ([] : List Ent) [PowT] (X := Unit) (fun _ => .bool r) (fun _ => []) := by
  unfold m_gleekeep2_ready at hm
  refine ctr_mk (vs := []) Tryz.func11 rfl Tryz.ntmps11 rfl trivial (fun w0 A => ?_)
  refine cj_seq ?_
  refine cj_reg ?_
  refine lp rfl (p_as rfl) ?_
  refine lj_seq ?_
  refine cj_seq ?_
  refine cj_reg ?_
  refine lp rfl (p_bld [.int .i64 1, .int .i64 4, .int .i64 2, .int .i64 0, .bool true] rfl (fun _ => by kernel_rfl)) ?_
  refine r_bs R69 [(TBar.mk 1 4 2 0 true)] rfl rfl rfl (fun _ => by kernel_rfl) rfl (fun s1 => ?_)
  obtain ⟨y2, hy2, hm⟩ := bindS hm
  refine r_call [] cf29 rfl rfl (ok_piece_Order s1 [(TBar.mk 1 4 2 0 true)] hy2) rfl rfl (.cons (.row 0 rfl) .nil) (fun _ => rfl) rfl (fun s3 => ?_)
  refine lp rfl (p_mv rfl) ?_
  refine lp rfl (p_ext rfl rfl) ?_
  refine lp rfl (p_ext rfl rfl) ?_
  refine lp rfl (p_as rfl) ?_
  refine lp rfl (p_as rfl) ?_
  refine lj_seq ?_
  refine cj_seq ?_
  refine cj_reg ?_
  refine lp rfl (p_bld [.int .i64 1, .int .i64 2, .int .i64 1] rfl (fun _ => by kernel_rfl)) ?_
  obtain ⟨y4, hy4, hm⟩ := bindS hm
  refine r_call [] cf30 rfl rfl (ok_chord_Name (TChord.mk 1 2 1) hy4) rfl rfl (.cons (.ro 2 rfl) .nil) (fun _ => rfl) rfl (fun _ => ?_)
  refine lp rfl (p_mv rfl) ?_
  refine lp rfl (p_ext rfl rfl) ?_
  refine lp rfl (p_ext rfl rfl) ?_
  refine lp rfl (p_as rfl) ?_
  refine lp rfl (p_as rfl) ?_
  refine lj_seq ?_
  refine cj_seq ?_
  refine cj_reg ?_
  refine lp rfl (p_bld [.int .i64 5, .string (ByteArray.mk [97, 110, 110].toArray), .bool false] rfl (fun _ => by kernel_rfl)) ?_
  refine r_bs R78 [(TCame.mk 5 (ByteArray.mk [97, 110, 110].toArray) false)] rfl rfl rfl (fun _ => by kernel_rfl) rfl (fun s5 => ?_)
  obtain ⟨y6, hy6, hm⟩ := bindS hm
  refine r_call [] cf31 rfl rfl (ok_rehearse_There s5 [(TCame.mk 5 (ByteArray.mk [97, 110, 110].toArray) false)] 6 hy6) rfl rfl (.cons (.row 0 rfl) .nil) (fun _ => rfl) rfl (fun s7 => ?_)
  refine lp rfl (p_mv rfl) ?_
  refine lp rfl (p_ext rfl rfl) ?_
  refine lp rfl (p_ext rfl rfl) ?_
  refine lp rfl (p_as rfl) ?_
  refine lp rfl (p_as rfl) ?_
  refine lj_seq ?_
  refine cj_seq ?_
  refine cj_reg ?_
  refine r_bs R9 [(ByteArray.mk [97, 108, 116, 111].toArray)] rfl rfl rfl (fun _ => by kernel_rfl) rfl (fun s8 => ?_)
  refine lp rfl (p_bld [.string (ByteArray.mk [97].toArray), .string (ByteArray.mk [112].toArray), .int .i64 7, s8.v] rfl (fun _ => by kernel_rfl)) ?_
  refine r_fz 0 rfl ?_
  refine r_fact (F := Lk N43 [(TItem.mk (ByteArray.mk [97].toArray) (ByteArray.mk [112].toArray) 7 [(ByteArray.mk [97, 108, 116, 111].toArray)])] [((TItem.mk (ByteArray.mk [97].toArray) (ByteArray.mk [112].toArray) 7 [(ByteArray.mk [97, 108, 116, 111].toArray)]), s8)]) (.imp (.and (.ro 0 rfl) (.nilL N43)) (fun _ h => Lk.cons h.1 h.2)) ?_
  have hLs9 : (([((TItem.mk (ByteArray.mk [97].toArray) (ByteArray.mk [112].toArray) 7 [(ByteArray.mk [97, 108, 116, 111].toArray)]), s8)] : List (TItem × SV)).map Prod.fst) = ([(TItem.mk (ByteArray.mk [97].toArray) (ByteArray.mk [112].toArray) 7 [(ByteArray.mk [97, 108, 116, 111].toArray)])] : List TItem) := rfl
  refine r_bs N43.R [((TItem.mk (ByteArray.mk [97].toArray) (ByteArray.mk [112].toArray) 7 [(ByteArray.mk [97, 108, 116, 111].toArray)]), s8)] rfl rfl rfl (fun _ => by kernel_rfl) rfl (fun s9 => ?_)
  refine lp rfl (p_bld [s9.v, .int .i64 0, .int .i64 0, .int .i64 0, .int .i64 (-1)] rfl (fun _ => by kernel_rfl)) ?_
  obtain ⟨y10, hy10, hm⟩ := bindS hm
  refine r_call [] cf32 rfl rfl (ok_concert_Long (TProgram.mk [(TItem.mk (ByteArray.mk [97].toArray) (ByteArray.mk [112].toArray) 7 [(ByteArray.mk [97, 108, 116, 111].toArray)])] 0 0 0 (-1)) s9 [((TItem.mk (ByteArray.mk [97].toArray) (ByteArray.mk [112].toArray) 7 [(ByteArray.mk [97, 108, 116, 111].toArray)]), s8)] hy10) rfl rfl (.cons (.ro 1 rfl) (.cons (.row 0 rfl) .nil)) (fun _ => rfl) rfl (fun _ => ?_)
  refine lp rfl (p_mv rfl) ?_
  refine lp rfl (p_ext rfl rfl) ?_
  refine lp rfl (p_ext rfl rfl) ?_
  refine lp rfl (p_as rfl) ?_
  refine lp rfl (p_as rfl) ?_
  refine lj_seq ?_
  refine cj_seq ?_
  refine cj_reg ?_
  refine lp rfl (p_bld [.string (ByteArray.mk [97].toArray), .int .i64 1, .int .i64 0, .int .i64 1, .string (ByteArray.mk [97, 110, 110].toArray), .string ByteArray.empty, .int .i64 0, .bool false, .string ByteArray.empty, .int .i64 0] rfl (fun _ => by kernel_rfl)) ?_
  refine r_bs R84 [(TAct.mk (ByteArray.mk [97].toArray) 1 0 1 (ByteArray.mk [97, 110, 110].toArray) ByteArray.empty 0 false ByteArray.empty 0)] rfl rfl rfl (fun _ => by kernel_rfl) rfl (fun s11 => ?_)
  obtain ⟨y12, hy12, hm⟩ := bindS hm
  refine r_call [] cf33 rfl rfl (ok_club_Members s11 [(TAct.mk (ByteArray.mk [97].toArray) 1 0 1 (ByteArray.mk [97, 110, 110].toArray) ByteArray.empty 0 false ByteArray.empty 0)] 0 hy12) rfl rfl (.cons (.row 0 rfl) .nil) (fun _ => rfl) rfl (fun s13 => ?_)
  refine lp rfl (p_mv rfl) ?_
  refine lp rfl (p_ext rfl rfl) ?_
  refine lp rfl (p_ext rfl rfl) ?_
  refine lp rfl (p_as rfl) ?_
  refine lp rfl (p_as rfl) ?_
  refine lj_seq ?_
  refine cj_seq ?_
  refine cj_reg ?_
  refine lp rfl (p_mv rfl) ?_
  refine lp rfl (p_mv rfl) ?_
  refine lp rfl (p_mv rfl) ?_
  refine lp rfl (p_mv rfl) ?_
  refine lp rfl (p_mv rfl) ?_
  refine r_bs R31 [y2.2, y4.2, y6.2, y10.2, y12.2] rfl rfl rfl (fun _ => by kernel_rfl) rfl (fun s14 => ?_)
  obtain ⟨y15, hy15, hm⟩ := bindS hm
  refine r_call [] cf8 rfl rfl (ok_gleekeep2_errs s14 [y2.2, y4.2, y6.2, y10.2, y12.2] hy15) rfl rfl (.cons (.row 0 rfl) .nil) (fun _ => rfl) rfl (fun _ => ?_)
  refine lp rfl (p_eql rfl rfl) ?_
  refine lp rfl (p_mv rfl) ?_
  refine lcase (i := 50) (y15 == 0) rfl (fun hb => ?_) (fun hb => ?_)
  · have hm := ifB_t hb hm
    refine lg true rfl rfl rfl ?_
    refine lp rfl (p_mv rfl) ?_
    refine lg true rfl rfl rfl ?_
    refine lp rfl (p_len Tryz.underlying22 rfl (.row 8 rfl)) ?_
    refine lg true rfl rfl rfl ?_
    refine lp rfl (p_eql rfl rfl) ?_
    refine lp rfl (p_pkt rfl rfl) ?_
    refine lp rfl (p_mv rfl) ?_
    refine lcase (i := 55) ((y2.1.length : Int) == 2) rfl (fun hb => ?_) (fun hb => ?_)
    · have hm := ifB_t hb hm
      refine lg true rfl rfl rfl ?_
      refine lp rfl (p_mv rfl) ?_
      refine lg true rfl rfl rfl ?_
      refine lp rfl (p_eqs rfl rfl) ?_
      refine lp rfl (p_pkt rfl rfl) ?_
      refine lp rfl (p_mv rfl) ?_
      refine lcase (i := 59) (y4.1.toList == (ByteArray.mk [99, 35, 32, 109, 105, 110, 47, 49].toArray).toList) rfl (fun hb => ?_) (fun hb => ?_)
      · have hm := ifB_t hb hm
        refine lg true rfl rfl rfl ?_
        refine lp rfl (p_mv rfl) ?_
        refine lg true rfl rfl rfl ?_
        refine lp rfl (p_len Tryz.underlying41 rfl (.row 6 rfl)) ?_
        refine lg true rfl rfl rfl ?_
        refine lp rfl (p_eql rfl rfl) ?_
        refine lp rfl (p_pkt rfl rfl) ?_
        refine lp rfl (p_mv rfl) ?_
        refine lcase (i := 64) ((y6.1.length : Int) == 1) rfl (fun hb => ?_) (fun hb => ?_)
        · have hm := ifB_t hb hm
          refine lg true rfl rfl rfl ?_
          refine lp rfl (p_mv rfl) ?_
          refine lg true rfl rfl rfl ?_
          refine lp rfl (p_eql rfl rfl) ?_
          refine lp rfl (p_pkt rfl rfl) ?_
          refine lp rfl (p_mv rfl) ?_
          refine lcase (i := 68) (y10.1 == 7) rfl (fun hb => ?_) (fun hb => ?_)
          · have hm := ifB_t hb hm
            refine lg true rfl rfl rfl ?_
            refine lp rfl (p_mv rfl) ?_
            refine lg true rfl rfl rfl ?_
            refine lp rfl (p_len Tryz.underlying41 rfl (.row 1 rfl)) ?_
            refine lg true rfl rfl rfl ?_
            refine lp rfl (p_eql rfl rfl) ?_
            refine lp rfl (p_pkt rfl rfl) ?_
            refine lp rfl (p_as rfl) ?_
            refine lj_seq ?_
            obtain rfl := Option.some.inj hm
            exact cj_rt () [] Tryz.results11 (.tmp rfl .nil) rfl rfl
          · have hm := ifB_f hb hm
            refine ls true rfl rfl rfl rfl ?_
            refine ls true rfl rfl rfl rfl ?_
            refine ls true rfl rfl rfl rfl ?_
            refine lp rfl (p_pkf rfl rfl) ?_
            refine lp rfl (p_as rfl) ?_
            refine lj_seq ?_
            obtain rfl := Option.some.inj hm
            exact cj_rt () [] Tryz.results11 (.tmp rfl .nil) rfl rfl
        · have hm := ifB_f hb hm
          refine ls true rfl rfl rfl rfl ?_
          refine ls true rfl rfl rfl rfl ?_
          refine lp rfl (p_pkf rfl rfl) ?_
          refine lp rfl (p_mv rfl) ?_
          refine ls true rfl rfl rfl rfl ?_
          refine ls true rfl rfl rfl rfl ?_
          refine ls true rfl rfl rfl rfl ?_
          refine lp rfl (p_pkf rfl rfl) ?_
          refine lp rfl (p_as rfl) ?_
          refine lj_seq ?_
          obtain rfl := Option.some.inj hm
          exact cj_rt () [] Tryz.results11 (.tmp rfl .nil) rfl rfl
      · have hm := ifB_f hb hm
        refine ls true rfl rfl rfl rfl ?_
        refine ls true rfl rfl rfl rfl ?_
        refine ls true rfl rfl rfl rfl ?_
        refine lp rfl (p_pkf rfl rfl) ?_
        refine lp rfl (p_mv rfl) ?_
        refine ls true rfl rfl rfl rfl ?_
        refine ls true rfl rfl rfl rfl ?_
        refine lp rfl (p_pkf rfl rfl) ?_
        refine lp rfl (p_mv rfl) ?_
        refine ls true rfl rfl rfl rfl ?_
        refine ls true rfl rfl rfl rfl ?_
        refine ls true rfl rfl rfl rfl ?_
        refine lp rfl (p_pkf rfl rfl) ?_
        refine lp rfl (p_as rfl) ?_
        refine lj_seq ?_
        obtain rfl := Option.some.inj hm
        exact cj_rt () [] Tryz.results11 (.tmp rfl .nil) rfl rfl
    · have hm := ifB_f hb hm
      refine ls true rfl rfl rfl rfl ?_
      refine ls true rfl rfl rfl rfl ?_
      refine lp rfl (p_pkf rfl rfl) ?_
      refine lp rfl (p_mv rfl) ?_
      refine ls true rfl rfl rfl rfl ?_
      refine ls true rfl rfl rfl rfl ?_
      refine ls true rfl rfl rfl rfl ?_
      refine lp rfl (p_pkf rfl rfl) ?_
      refine lp rfl (p_mv rfl) ?_
      refine ls true rfl rfl rfl rfl ?_
      refine ls true rfl rfl rfl rfl ?_
      refine lp rfl (p_pkf rfl rfl) ?_
      refine lp rfl (p_mv rfl) ?_
      refine ls true rfl rfl rfl rfl ?_
      refine ls true rfl rfl rfl rfl ?_
      refine ls true rfl rfl rfl rfl ?_
      refine lp rfl (p_pkf rfl rfl) ?_
      refine lp rfl (p_as rfl) ?_
      refine lj_seq ?_
      obtain rfl := Option.some.inj hm
      exact cj_rt () [] Tryz.results11 (.tmp rfl .nil) rfl rfl
  · have hm := ifB_f hb hm
    refine ls true rfl rfl rfl rfl ?_
    refine ls true rfl rfl rfl rfl ?_
    refine ls true rfl rfl rfl rfl ?_
    refine lp rfl (p_pkf rfl rfl) ?_
    refine lp rfl (p_mv rfl) ?_
    refine ls true rfl rfl rfl rfl ?_
    refine ls true rfl rfl rfl rfl ?_
    refine lp rfl (p_pkf rfl rfl) ?_
    refine lp rfl (p_mv rfl) ?_
    refine ls true rfl rfl rfl rfl ?_
    refine ls true rfl rfl rfl rfl ?_
    refine ls true rfl rfl rfl rfl ?_
    refine lp rfl (p_pkf rfl rfl) ?_
    refine lp rfl (p_mv rfl) ?_
    refine ls true rfl rfl rfl rfl ?_
    refine ls true rfl rfl rfl rfl ?_
    refine lp rfl (p_pkf rfl rfl) ?_
    refine lp rfl (p_mv rfl) ?_
    refine ls true rfl rfl rfl rfl ?_
    refine ls true rfl rfl rfl rfl ?_
    refine ls true rfl rfl rfl rfl ?_
    refine lp rfl (p_pkf rfl rfl) ?_
    refine lp rfl (p_as rfl) ?_
    refine lj_seq ?_
    obtain rfl := Option.some.inj hm
    exact cj_rt () [] Tryz.results11 (.tmp rfl .nil) rfl rfl
theorem ok_gleekeep2_TiredSingLong (s0_ : SV) (a0 : (List Int)) {r : Bool} (hm : m_gleekeep2_TiredSingLong a0 = some r) :
    Ctr Tryz.prog 3 [s0_.v].toArray ([] : List Ent) [RdS R3 (SV.v s0_) a0, PowT] (X := Unit) (fun _ => .bool r) (fun _ => []) := by
  unfold m_gleekeep2_TiredSingLong at hm
  refine ctr_mk (vs := [(0, s0_.v)]) Tryz.func3 rfl Tryz.ntmps3 rfl ⟨rfl, trivial⟩ (fun w0 A => ?_)
  refine cj_seq ?_
  refine cj_reg ?_
  refine lp rfl (p_as rfl) ?_
  refine lj_seq ?_
  refine cj_seq ?_
  refine cj_reg ?_
  refine lp rfl (p_mv rfl) ?_
  refine lp rfl (p_bld [s0_.v, .int .i64 0] rfl (fun _ => by kernel_rfl)) ?_
  refine r_bx (cs := [s0_.v, .int .i64 0]) rfl rfl rfl (fun b1 => ?_)
  refine lp rfl (p_as rfl) ?_
  refine lj_seq ?_
  refine cj_seq ?_
  refine cj_reg ?_
  refine lp rfl (p_mv rfl) ?_
  obtain ⟨y2, hy2, hm⟩ := bindS hm
  refine r_callN [0] cf4 rfl rfl (ok_gleemake_Stream_RightProgram b1 s0_ a0 0 5 hy2) rfl rfl (.cons (.ro 0 rfl) .nil) rfl (fun ⟨s3, xg4⟩ => ?_)
  refine r_pure (F := Lk N43 y2.1.Items xg4) (.ro 1 rfl) (fun _ h => h.1) (fun hLs3 => ?_)
  refine r_al ty28 rfl (fun b5 => ?_)
  refine r_sb (vs := [s3.v, .int .i64 y2.1.Change, .int .i64 y2.1.Clap, .int .i64 y2.1.Break, .int .i64 y2.1.Half]) (j := 0) ty28 rfl rfl rfl rfl rfl rfl rfl ?_
  refine lj_seq ?_
  refine cj_seq ?_
  obtain ⟨y6, hy6, hm⟩ := bindS hm
  obtain ⟨y7, hy7, hm⟩ := bindS hm
  refine cj_anyT [0, 1, 4, 5, 6, 7, 8] [] (Sat w0 (keys ([] : List Ent)) A [.box b5 28 [s3.v, .int .i64 y2.1.Change, .int .i64 y2.1.Clap, .int .i64 y2.1.Break, .int .i64 y2.1.Half], .row N43.R (SV.v s3) xg4, .ro (Lk N43 y2.1.Items xg4), .ro (RdS R3 (SV.v s0_) a0), .ro PowT]) (Sat w0 (keys ([] : List Ent)) A [.box b5 28 [s3.v, .int .i64 y2.1.Change, .int .i64 y2.1.Clap, .int .i64 y2.1.Break, .int .i64 y2.1.Half], .row N43.R (SV.v s3) xg4, .ro (Lk N43 y2.1.Items xg4), .ro (RdS R3 (SV.v s0_) a0), .ro PowT]) (by kernel_rfl) ?_
  refine at_take2 0 rfl (by kernel_rfl) (by kernel_rfl) (by kernel_rfl) (fun _ h => h.picks [0, 0, 0, 0, 0] rfl) rfl rfl (p_lbw ty28 rfl (j := 0) rfl rfl) (fun _ h => h.picks [0, 0, 0, 1, 1] rfl) ?_
  refine at_take2 1 rfl (by kernel_rfl) (by kernel_rfl) (by kernel_rfl) (fun _ h => h.picks [0, 0, 0, 0, 0] rfl) rfl rfl (p_mv rfl) (fun _ h => h.picks [0, 0, 0, 1, 1] rfl) ?_
  refine at_each (rs := [2]) (by kernel_rfl) (by decide) ?_
  refine (.cons rfl (fun I cnI => ?_) .nil)
  · refine r_call [3] cf6 rfl rfl (ok_gleemake_Stream_Range b1 s0_ a0 y2.2 1 200 hy6) rfl rfl (.cons (.ro 3 rfl) .nil) (fun _ => rfl) rfl (fun _ => ?_)
    refine lj_nil ?_
    refine cnI _ _ (sof1 rfl rfl (fun _ h => h.picks [1, 1, 1, 1, 1] rfl)) ?_
    refine at_each (rs := [3]) (by kernel_rfl) (by decide) ?_
    refine (.cons rfl (fun I cnI => ?_) .nil)
    · refine r_call [] cf5 rfl rfl (ok_concert_Tired y2.1 s3 xg4 10000 y6.1 hy7) rfl rfl (.cons (.ro 3 rfl) (.cons (.row 2 rfl) .nil)) (fun _ => rfl) rfl (fun s54 => ?_)
      refine lj_nil ?_
      refine cnI _ _ (sof1 rfl rfl (fun _ h => h.picks [2, 2, 2, 2, 2] rfl)) ?_
      refine at_take2 4 rfl (by kernel_rfl) (by kernel_rfl) (by kernel_rfl) (fun _ h => h.picks [0, 0, 0, 0, 0] rfl) rfl rfl (p_mv rfl) (fun _ h => h.picks [2, 2, 2, 2, 2] rfl) ?_
      refine at_take2 5 rfl (by kernel_rfl) (by kernel_rfl) (by kernel_rfl) (fun _ h => h.picks [0, 0, 0, 0, 0] rfl) rfl rfl (p_ext rfl rfl) (fun _ h => h.picks [2, 2, 2, 2, 2] rfl) ?_
      refine at_take2 6 rfl (by kernel_rfl) (by kernel_rfl) (by kernel_rfl) (fun _ h => h.picks [0, 0, 0, 0, 0] rfl) rfl rfl (p_ext rfl rfl) (fun _ h => h.picks [2, 2, 2, 2, 2] rfl) ?_
      refine at_take2 7 rfl (by kernel_rfl) (by kernel_rfl) (by kernel_rfl) (fun _ h => h.picks [0, 0, 0, 0, 0] rfl) rfl rfl (p_as rfl) (fun _ h => h.picks [2, 2, 2, 2, 2] rfl) ?_
      refine at_take2 8 rfl (by kernel_rfl) (by kernel_rfl) (by kernel_rfl) (fun _ h => h.picks [0, 0, 0, 0, 0] rfl) rfl rfl (p_as rfl) (fun _ h => h.picks [2, 2, 2, 2, 2] rfl) ?_
      refine at_done (by kernel_rfl) ?_
      refine nj_seq ?_
      refine cj_seq ?_
      obtain ⟨y55, hy55, hm⟩ := bindS hm
      obtain ⟨y56, hy56, hm⟩ := bindS hm
      obtain ⟨y57, hy57, hm⟩ := bindS hm
      refine cj_anyT [0, 1, 3, 6, 7, 8, 9, 10] [] (Sat w0 (keys ([] : List Ent)) A [.row R38 (SV.v s54) y7.1, .box b5 28 [s3.v, .int .i64 y2.1.Change, .int .i64 y2.1.Clap, .int .i64 y2.1.Break, .int .i64 y2.1.Half], .row N43.R (SV.v s3) xg4, .ro (Lk N43 y2.1.Items xg4), .ro (RdS R3 (SV.v s0_) a0), .ro PowT]) (Sat w0 (keys ([] : List Ent)) A [.row R38 (SV.v s54) y7.1, .box b5 28 [s3.v, .int .i64 y2.1.Change, .int .i64 y2.1.Clap, .int .i64 y2.1.Break, .int .i64 y2.1.Half], .row N43.R (SV.v s3) xg4, .ro (Lk N43 y2.1.Items xg4), .ro (RdS R3 (SV.v s0_) a0), .ro PowT]) (by kernel_rfl) ?_
      refine at_take2 0 rfl (by kernel_rfl) (by kernel_rfl) (by kernel_rfl) (fun _ h => h.picks [0, 0, 0, 0, 0, 0] rfl) rfl rfl (p_lbw ty28 rfl (j := 1) rfl rfl) (fun _ h => h.picks [0, 1, 1, 1, 1, 1] rfl) ?_
      refine at_take2 1 rfl (by kernel_rfl) (by kernel_rfl) (by kernel_rfl) (fun _ h => h.picks [0, 0, 0, 0, 0, 0] rfl) rfl rfl (p_mv rfl) (fun _ h => h.picks [0, 1, 1, 1, 1, 1] rfl) ?_
      refine at_take2 3 rfl (by kernel_rfl) (by kernel_rfl) (by kernel_rfl) (fun _ h => h.picks [0, 0, 0, 0, 0, 0] rfl) rfl rfl (p_mv rfl) (fun _ h => h.picks [0, 1, 1, 1, 1, 1] rfl) ?_
      refine at_each (rs := [2]) (by kernel_rfl) (by decide) ?_
      refine (.cons rfl (fun I cnI => ?_) .nil)
      · refine r_call [1] cf6 rfl rfl (ok_gleemake_Stream_Range b1 s0_ a0 y6.2 1 300 hy55) rfl rfl (.cons (.ro 4 rfl) .nil) (fun _ => rfl) rfl (fun _ => ?_)
        refine lj_nil ?_
        refine cnI _ _ (sof1 rfl rfl (fun _ h => h.picks [1, 1, 1, 1, 1, 1] rfl)) ?_
        refine at_each (rs := [4]) (by kernel_rfl) (by decide) ?_
        refine (.cons rfl (fun I cnI => ?_) .nil)
        · refine r_call [0] cf6 rfl rfl (ok_gleemake_Stream_Range b1 s0_ a0 y55.2 1 200 hy56) rfl rfl (.cons (.ro 4 rfl) .nil) (fun _ => rfl) rfl (fun _ => ?_)
          refine lj_nil ?_
          refine cnI _ _ (sof1 rfl rfl (fun _ h => h.picks [1, 1, 1, 1, 1, 1] rfl)) ?_
          refine at_each (rs := [5]) (by kernel_rfl) (by decide) ?_
          refine (.cons rfl (fun I cnI => ?_) .nil)
          · refine r_call [] cf5 rfl rfl (ok_concert_Tired y2.1 s3 xg4 y55.1 y56.1 hy57) rfl rfl (.cons (.ro 4 rfl) (.cons (.row 3 rfl) .nil)) (fun _ => rfl) rfl (fun s79 => ?_)
            refine lj_nil ?_
            refine cnI _ _ (sof1 rfl rfl (fun _ h => h.picks [2, 2, 2, 2, 2, 2] rfl)) ?_
            refine at_take2 6 rfl (by kernel_rfl) (by kernel_rfl) (by kernel_rfl) (fun _ h => h.picks [0, 0, 0, 0, 0, 0] rfl) rfl rfl (p_mv rfl) (fun _ h => h.picks [2, 2, 2, 2, 2, 2] rfl) ?_
            refine at_take2 7 rfl (by kernel_rfl) (by kernel_rfl) (by kernel_rfl) (fun _ h => h.picks [0, 0, 0, 0, 0, 0] rfl) rfl rfl (p_ext rfl rfl) (fun _ h => h.picks [2, 2, 2, 2, 2, 2] rfl) ?_
            refine at_take2 8 rfl (by kernel_rfl) (by kernel_rfl) (by kernel_rfl) (fun _ h => h.picks [0, 0, 0, 0, 0, 0] rfl) rfl rfl (p_ext rfl rfl) (fun _ h => h.picks [2, 2, 2, 2, 2, 2] rfl) ?_
            refine at_take2 9 rfl (by kernel_rfl) (by kernel_rfl) (by kernel_rfl) (fun _ h => h.picks [0, 0, 0, 0, 0, 0] rfl) rfl rfl (p_as rfl) (fun _ h => h.picks [2, 2, 2, 2, 2, 2] rfl) ?_
            refine at_take2 10 rfl (by kernel_rfl) (by kernel_rfl) (by kernel_rfl) (fun _ h => h.picks [0, 0, 0, 0, 0, 0] rfl) rfl rfl (p_as rfl) (fun _ h => h.picks [2, 2, 2, 2, 2, 2] rfl) ?_
            refine at_done (by kernel_rfl) ?_
            refine nj_seq ?_
            refine cj_seq ?_
            refine cj_reg ?_
            refine lp rfl (p_lbw ty28 rfl (j := 3) rfl rfl) ?_
            obtain ⟨y80, hy80, hm⟩ := bindS hm
            refine r_call [] cf7 rfl rfl (ok_concert_Sung y2.1 s3 xg4 hy80) rfl rfl (.cons (.ro 5 rfl) (.cons (.row 4 rfl) (.cons (.ro 7 rfl) .nil))) (fun _ => rfl) rfl (fun s81 => ?_)
            refine lp rfl (p_mv rfl) ?_
            refine lp rfl (p_ext rfl rfl) ?_
            refine lp rfl (p_ext rfl rfl) ?_
            refine lp rfl (p_as rfl) ?_
            refine lp rfl (p_as rfl) ?_
            refine lj_seq ?_
            refine cj_seq ?_
            refine cj_seq ?_
            refine cj_reg ?_
            obtain ⟨k84, hk84, hm⟩ := bindS hm
            have hRk84 : ∀ t, k84 = .inr t → some t = some r := fun t e => by rw [e] at hm; exact hm
            refine lj_join (σ := Bool) (γ := Unit) (fun u82 => k84 = .inl u82) (fun u82 g83 => [(2, .bool false), (4, .pointer (some ⟨b5, 0, none⟩)), (7, s79.v), (57, .bool u82)]) (fun u82 g83 => Sat w0 (keys ([] : List Ent)) A [.row R38 (SV.v s79) y57.1, .box b5 28 [s3.v, .int .i64 y2.1.Change, .int .i64 y2.1.Clap, .int .i64 y2.1.Break, .int .i64 y2.1.Half], .row N43.R (SV.v s3) xg4, .ro (Lk N43 y2.1.Items xg4), .ro PowT]) (fun u82 g83 hq => ?_) (fun J cnk84 => ?_)
            · have hm := Sum.fin_l hq hm
              refine cj_if (b := u82) rfl (fun hb => ?_) (fun hb => ?_)
              · have hm := ifB_t hb hm
                refine cj_seq ?_
                refine cj_reg ?_
                refine lp rfl (p_as rfl) ?_
                refine lj_seq ?_
                obtain rfl := Option.some.inj hm
                exact cj_rt () [] Tryz.results3 (.tmp rfl .nil) rfl rfl
              · have hm := ifB_f hb hm
                refine cj_skip ?_
                refine nj_seq ?_
                refine cj_seq ?_
                refine cj_seq ?_
                refine cj_reg ?_
                refine lp rfl (p_mv rfl) ?_
                refine lp rfl (p_len Tryz.underlying30 rfl (.row 0 rfl)) ?_
                refine lp rfl (p_mv rfl) ?_
                refine lj_seq ?_
                obtain ⟨f93, hf93, hm⟩ := bindS hm
                refine cj_range (γ := Unit) (m := (y57.1.length : Int)) hf93 () (fun u90 g91 => [(2, .bool false), (4, .pointer (some ⟨b5, 0, none⟩)), (7, s79.v), (58, s79.v)]) (fun u90 g91 => Sat w0 (keys ([] : List Ent)) A [.row R38 (SV.v s79) y57.1, .box b5 28 [s3.v, .int .i64 y2.1.Change, .int .i64 y2.1.Clap, .int .i64 y2.1.Break, .int .i64 y2.1.Half], .row N43.R (SV.v s3) xg4, .ro (Lk N43 y2.1.Items xg4), .ro PowT]) ⟨rfl, rfl, rfl, rfl, rfl, rfl, trivial⟩ (fun _ h => h.picks [0, 0, 0, 0, 0] rfl) (nat_lt _) (fun _ h => (FactAt.get (F := RdS R38 (SV.v s79) y57.1) (.row 0 rfl) h).1) (fun _ _ => ⟨rfl, rfl, rfl, rfl⟩) ⟨rfl, rfl, rfl, rfl, rfl⟩ rfl rfl rfl (fun u90 g91 e => ?_) (fun aftk92 i87 x88 u90 g91 k92 hx89 hs J hJk92 hBk92 hX I cnk92 => ?_)
                · have hm := Flow.fin_b e hm
                  refine nj_seq ?_
                  refine cj_seq ?_
                  refine cj_reg ?_
                  obtain ⟨y99, hy99, hm⟩ := bindS hm
                  refine r_call [] cf11 rfl rfl (ok_gleekeep2_ready  hy99) rfl rfl (.cons (.ro 4 rfl) .nil) (fun _ => rfl) rfl (fun _ => ?_)
                  refine lp rfl (p_as rfl) ?_
                  refine lj_seq ?_
                  obtain rfl := Option.some.inj hm
                  exact cj_rt () [] Tryz.results3 (.tmp rfl .nil) rfl rfl
                · have hRk92 : ∀ t, k92 = .ret t → some t = some r := fun t e => by rw [hX t e] at hm; exact hm
                  have hm := hs
                  refine cj_seq ?_
                  refine cj_reg ?_
                  refine lp rfl (p_mv rfl) ?_
                  refine lp rfl (p_idx Tryz.underlying30 ty38 rfl rfl (.row 0 rfl) (getI_nat.trans hx89)) ?_
                  refine lp rfl (p_lea ty38 rfl (.row 0 rfl) hx89) ?_
                  refine r_al ty38 rfl (fun b94 => ?_)
                  refine lp rfl (p_as rfl) ?_
                  refine r_sb (vs := [.string x88.Name, .string x88.Value]) (j := 0) ty38 rfl rfl rfl rfl rfl rfl rfl ?_
                  refine lj_seq ?_
                  refine cj_seq ?_
                  refine cj_reg ?_
                  refine lp rfl (p_fab fl28_0 rfl) ?_
                  refine lp rfl (p_lbs ty26 rfl (j := 2) rfl rfl) ?_
                  refine lp rfl (p_fab fl38_1 rfl) ?_
                  refine lp rfl (p_lbs ty9 rfl (j := 0) rfl rfl) ?_
                  obtain ⟨y95, hy95, hm⟩ := bindS hm
                  refine r_call [] cf9 rfl rfl (ok_gleeref2_ItemAt s3 xg4 y2.1.Items x88.Value hy95) rfl rfl (.cons (.ro 4 rfl) (.cons (.row 3 rfl) .nil)) (fun _ => rfl) rfl (fun _ => ?_)
                  refine lp rfl (p_as rfl) ?_
                  refine lj_seq ?_
                  refine cj_seq ?_
                  refine cj_quiet (by kernel_rfl) (by kernel_rfl) ?_
                  refine q_p rfl (p_mv rfl) ?_
                  refine q_p rfl (p_lss rfl rfl) ?_
                  refine q_p rfl (p_mv rfl) ?_
                  refine q_case (i := 72) (decide (y95 < 0)) rfl (fun hb => ?_) (fun hb => ?_)
                  · have hm := ifB_t hb hm
                    refine q_s false rfl rfl rfl rfl ?_
                    refine q_s false rfl rfl rfl rfl ?_
                    refine q_s false rfl rfl rfl rfl ?_
                    refine q_s false rfl rfl rfl rfl ?_
                    refine q_s false rfl rfl rfl rfl ?_
                    refine q_s false rfl rfl rfl rfl ?_
                    refine q_s false rfl rfl rfl rfl ?_
                    refine q_s false rfl rfl rfl rfl ?_
                    refine q_s false rfl rfl rfl rfl ?_
                    refine q_s false rfl rfl rfl rfl ?_
                    refine q_p rfl (p_pkt rfl rfl) ?_
                    refine q_p rfl (p_mv rfl) ?_
                    refine q_s false rfl rfl rfl rfl ?_
                    refine q_s false rfl rfl rfl rfl ?_
                    refine q_s false rfl rfl rfl rfl ?_
                    refine q_su rfl rfl rfl rfl ?_
                    refine q_su rfl rfl rfl rfl ?_
                    refine q_su rfl rfl rfl rfl ?_
                    refine q_su rfl rfl rfl rfl ?_
                    refine q_su rfl rfl rfl rfl ?_
                    refine q_su rfl rfl rfl rfl ?_
                    refine q_su rfl rfl rfl rfl ?_
                    refine q_su rfl rfl rfl rfl ?_
                    refine q_su rfl rfl rfl rfl ?_
                    refine q_s false rfl rfl rfl rfl ?_
                    refine q_p rfl (p_pkt rfl rfl) ?_
                    refine q_nil ?_
                    refine nj_seq ?_
                    refine cj_if_t rfl ?_
                    refine cj_seq ?_
                    refine cj_reg ?_
                    refine lp rfl (p_as rfl) ?_
                    refine lj_seq ?_
                    have hm := hRk92 _ (Option.some.inj hm).symm
                    obtain rfl := Option.some.inj hm
                    exact cj_rt () [] Tryz.results3 (.tmp rfl .nil) rfl rfl
                  · have hm := ifB_f hb hm
                    refine q_g false rfl rfl rfl ?_
                    refine q_p rfl (p_fab fl28_0 rfl) ?_
                    refine q_g false rfl rfl rfl ?_
                    refine q_p rfl (p_lbs ty26 rfl (j := 2) rfl rfl) ?_
                    refine q_g false rfl rfl rfl ?_
                    refine q_p rfl (p_mv rfl) ?_
                    refine q_g false rfl rfl rfl ?_
                    obtain ⟨e96, he96, hm⟩ := bindS hm
                    obtain ⟨ge96, he96G⟩ := lk_getI hLs3 he96
                    refine q_p rfl (p_idx Tryz.underlying26 ty43 rfl rfl (.row 3 rfl) he96G) ?_
                    refine q_g false rfl rfl rfl ?_
                    refine q_p rfl (p_fae fl43_3 rfl (.row 3 rfl) (getI_spec he96G).2) ?_
                    refine q_g false rfl rfl rfl ?_
                    refine q_p rfl (p_lde (o := 3) ty41 rfl rfl (.row 3 rfl) (getI_spec he96G).2 rfl) ?_
                    refine q_g false rfl rfl rfl ?_
                    refine q_p rfl (p_fab fl38_0 rfl) ?_
                    refine q_g false rfl rfl rfl ?_
                    refine q_p rfl (p_lbs ty9 rfl (j := 0) rfl rfl) ?_
                    refine q_g false rfl rfl rfl ?_
                    obtain ⟨y97, hy97, hm⟩ := bindS hm
                    refine q_call (.bool y97) cf10 rfl rfl (ok_slices_Contains_string_string ge96 e96.Parts x88.Name hy97) (.cons (.imp (.ro 4 rfl) (fun _ h => (Lk.at_ h (getI_spec he96G).2))) .nil) (fun _ => rfl) (fun _ => rfl) rfl ?_
                    refine q_g false rfl rfl rfl ?_
                    refine q_p rfl (p_not rfl) ?_
                    refine q_p rfl (p_pkf rfl rfl) ?_
                    refine q_p rfl (p_mv rfl) ?_
                    refine q_case (i := 84) (!y97) rfl (fun hb => ?_) (fun hb => ?_)
                    · have hm := ifB_t hb hm
                      refine q_s false rfl rfl rfl rfl ?_
                      refine q_s false rfl rfl rfl rfl ?_
                      refine q_s false rfl rfl rfl rfl ?_
                      refine q_su rfl rfl rfl rfl ?_
                      refine q_su rfl rfl rfl rfl ?_
                      refine q_su rfl rfl rfl rfl ?_
                      refine q_su rfl rfl rfl rfl ?_
                      refine q_su rfl rfl rfl rfl ?_
                      refine q_su rfl rfl rfl rfl ?_
                      refine q_su rfl rfl rfl rfl ?_
                      refine q_su rfl rfl rfl rfl ?_
                      refine q_su rfl rfl rfl rfl ?_
                      refine q_s false rfl rfl rfl rfl ?_
                      refine q_p rfl (p_pkt rfl rfl) ?_
                      refine q_nil ?_
                      refine nj_seq ?_
                      refine cj_if_t rfl ?_
                      refine cj_seq ?_
                      refine cj_reg ?_
                      refine lp rfl (p_as rfl) ?_
                      refine lj_seq ?_
                      have hm := hRk92 _ (Option.some.inj hm).symm
                      obtain rfl := Option.some.inj hm
                      exact cj_rt () [] Tryz.results3 (.tmp rfl .nil) rfl rfl
                    · have hm := ifB_f hb hm
                      refine q_g false rfl rfl rfl ?_
                      refine q_p rfl (p_mv rfl) ?_
                      refine q_g false rfl rfl rfl ?_
                      refine q_p rfl (p_gtr rfl rfl) ?_
                      refine q_g false rfl rfl rfl ?_
                      refine q_p rfl (p_mv rfl) ?_
                      refine q_case (i := 87) (decide ((i87 : Int) > 0)) rfl (fun hb => ?_) (fun hb => ?_)
                      · have hm := ifB_t hb hm
                        refine q_g true rfl rfl rfl ?_
                        refine q_p rfl (p_fab fl38_0 rfl) ?_
                        refine q_g true rfl rfl rfl ?_
                        refine q_p rfl (p_lbs ty9 rfl (j := 0) rfl rfl) ?_
                        refine q_g true rfl rfl rfl ?_
                        refine q_p rfl (p_mv rfl) ?_
                        refine q_g true rfl rfl rfl ?_
                        refine q_p rfl (p_mv rfl) ?_
                        refine q_g true rfl rfl rfl ?_
                        refine q_p rfl (p_sub rfl rfl) ?_
                        refine q_g true rfl rfl rfl ?_
                        obtain ⟨e98, he98, hm⟩ := bindS hm
                        refine q_p rfl (p_idx Tryz.underlying30 ty38 rfl rfl (.row 1 rfl) he98) ?_
                        refine q_g true rfl rfl rfl ?_
                        refine q_p rfl (p_fae fl38_0 rfl (.row 1 rfl) (getI_spec he98).2) ?_
                        refine q_g true rfl rfl rfl ?_
                        refine q_p rfl (p_lde (o := 0) ty9 rfl rfl (.row 1 rfl) (getI_spec he98).2 rfl) ?_
                        refine q_g true rfl rfl rfl ?_
                        refine q_p rfl (p_les rfl rfl) ?_
                        refine q_g false rfl rfl rfl ?_
                        refine q_p rfl (p_pkt rfl rfl) ?_
                        refine q_p rfl (p_pkf rfl rfl) ?_
                        refine q_nil ?_
                        refine nj_seq ?_
                        refine cj_if (b := Op.bytesLess x88.Name.toList e98.Name.toList || x88.Name.toList == e98.Name.toList) rfl (fun hb => ?_) (fun hb => ?_)
                        · have hm := ifB_t hb hm
                          refine cj_seq ?_
                          refine cj_reg ?_
                          refine lp rfl (p_as rfl) ?_
                          refine lj_seq ?_
                          have hm := hRk92 _ (Option.some.inj hm).symm
                          obtain rfl := Option.some.inj hm
                          exact cj_rt () [] Tryz.results3 (.tmp rfl .nil) rfl rfl
                        · have hm := ifB_f hb hm
                          refine cj_skip ?_
                          refine nj_blk ?_
                          exact cnk92 _ _ () () (hJk92 _ (Option.some.inj hm).symm) ⟨rfl, rfl, rfl, rfl, rfl, rfl, trivial⟩ (fun _ h => h.picks [1, 1, 1, 1, 1] rfl)
                      · have hm := ifB_f hb hm
                        refine q_s true rfl rfl rfl rfl ?_
                        refine q_s true rfl rfl rfl rfl ?_
                        refine q_s true rfl rfl rfl rfl ?_
                        refine q_s true rfl rfl rfl rfl ?_
                        refine q_s true rfl rfl rfl rfl ?_
                        refine q_s true rfl rfl rfl rfl ?_
                        refine q_s true rfl rfl rfl rfl ?_
                        refine q_s true rfl rfl rfl rfl ?_
                        refine q_s true rfl rfl rfl rfl ?_
                        refine q_g false rfl rfl rfl ?_
                        refine q_p rfl (p_pkf rfl rfl) ?_
                        refine q_p rfl (p_pkf rfl rfl) ?_
                        refine q_nil ?_
                        refine nj_seq ?_
                        refine cj_if_f rfl ?_
                        refine cj_skip ?_
                        refine nj_blk ?_
                        exact cnk92 _ _ () () (hJk92 _ (Option.some.inj hm).symm) ⟨rfl, rfl, rfl, rfl, rfl, rfl, trivial⟩ (fun _ h => h.picks [1, 1, 1, 1, 1] rfl)
            · have hm := hk84
              refine lp rfl (p_mv rfl) ?_
              refine lp rfl (p_mv rfl) ?_
              refine lp rfl (p_mv rfl) ?_
              refine r_bs R31 [y7.2, y57.2, y80.2] rfl rfl rfl (fun _ => by kernel_rfl) rfl (fun s85 => ?_)
              obtain ⟨y86, hy86, hm⟩ := bindS hm
              refine r_call [] cf8 rfl rfl (ok_gleekeep2_errs s85 [y7.2, y57.2, y80.2] hy86) rfl rfl (.cons (.row 0 rfl) .nil) (fun _ => rfl) rfl (fun _ => ?_)
              refine lp rfl (p_neq rfl rfl) ?_
              refine lp rfl (p_mv rfl) ?_
              refine lcase (i := 46) (y86 != 0) rfl (fun hb => ?_) (fun hb => ?_)
              · have hm := ifB_t hb hm
                refine ls false rfl rfl rfl rfl ?_
                refine ls false rfl rfl rfl rfl ?_
                refine ls false rfl rfl rfl rfl ?_
                refine lp rfl (p_pkt rfl rfl) ?_
                refine lp rfl (p_mv rfl) ?_
                refine ls false rfl rfl rfl rfl ?_
                refine ls false rfl rfl rfl rfl ?_
                refine ls false rfl rfl rfl rfl ?_
                refine ls false rfl rfl rfl rfl ?_
                refine ls false rfl rfl rfl rfl ?_
                refine lp rfl (p_pkt rfl rfl) ?_
                refine lj_nil ?_
                exact cnk84 _ _ true () (Option.some.inj hm).symm ⟨rfl, rfl, rfl, rfl, trivial⟩ (fun _ h => h.picks [2, 4, 4, 4, 5] rfl)
              · have hm := ifB_f hb hm
                refine lg false rfl rfl rfl ?_
                refine lp rfl (p_mv rfl) ?_
                refine lg false rfl rfl rfl ?_
                refine lp rfl (p_len Tryz.underlying30 rfl (.row 4 rfl)) ?_
                refine lg false rfl rfl rfl ?_
                refine lp rfl (p_neq rfl rfl) ?_
                refine lp rfl (p_pkf rfl rfl) ?_
                refine lp rfl (p_mv rfl) ?_
                refine lcase (i := 51) ((y7.1.length : Int) != 0) rfl (fun hb => ?_) (fun hb => ?_)
                · have hm := ifB_t hb hm
                  refine ls false rfl rfl rfl rfl ?_
                  refine ls false rfl rfl rfl rfl ?_
                  refine ls false rfl rfl rfl rfl ?_
                  refine ls false rfl rfl rfl rfl ?_
                  refine ls false rfl rfl rfl rfl ?_
                  refine lp rfl (p_pkt rfl rfl) ?_
                  refine lj_nil ?_
                  exact cnk84 _ _ true () (Option.some.inj hm).symm ⟨rfl, rfl, rfl, rfl, trivial⟩ (fun _ h => h.picks [2, 4, 4, 4, 5] rfl)
                · have hm := ifB_f hb hm
                  refine lg false rfl rfl rfl ?_
                  refine lp rfl (p_mv rfl) ?_
                  refine lg false rfl rfl rfl ?_
                  refine lp rfl (p_len Tryz.underlying30 rfl (.row 2 rfl)) ?_
                  refine lg false rfl rfl rfl ?_
                  refine lp rfl (p_mv rfl) ?_
                  refine lg false rfl rfl rfl ?_
                  refine lp rfl (p_len Tryz.underlying30 rfl (.row 1 rfl)) ?_
                  refine lg false rfl rfl rfl ?_
                  refine lp rfl (p_gtr rfl rfl) ?_
                  refine lp rfl (p_pkf rfl rfl) ?_
                  refine lj_nil ?_
                  exact cnk84 _ _ (decide ((y57.1.length : Int) > (y80.1.length : Int))) () (Option.some.inj hm).symm ⟨rfl, rfl, rfl, rfl, trivial⟩ (fun _ h => h.picks [2, 4, 4, 4, 5] rfl)
end Go.Proofs.YtdeoejkgmeemaadGreatDoor
