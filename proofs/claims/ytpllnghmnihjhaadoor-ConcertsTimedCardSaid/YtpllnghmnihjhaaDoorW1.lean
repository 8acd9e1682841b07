/- The walks. Written by program. -/
import Derived.Test.YtpllnghmnihjhaaDoorW
namespace Go.Proofs.YtpllnghmnihjhaaDoor
open Go Go.J Go.G
set_option maxRecDepth 100000
set_option linter.unusedVariables false
theorem ok_gleelaw2_ConcertsTimed (s0_ : SV) (a0 : (List Int)) {r : Bool} (hm : m_gleelaw2_ConcertsTimed a0 = some r) :
    Ctr Tryd.prog 3 [s0_.v].toArray ([] : List Ent) [RdS R3 (SV.v s0_) a0] (X := Unit) (fun _ => .bool r) (fun _ => []) := by
  unfold m_gleelaw2_ConcertsTimed at hm
  refine ctr_mk (vs := [(0, s0_.v)]) Tryd.func3 rfl Tryd.ntmps3 rfl ⟨rfl, trivial⟩ (fun w0 A => ?_)
  refine cj_seq ?_
  refine cj_reg ?_
  refine lp rfl (p_as rfl) ?_
  refine lj_seq ?_
  refine cj_seq ?_
  refine cj_reg ?_
  refine lp rfl (p_mv rfl) ?_
  refine lp rfl (p_bld [s0_.v, .int .i64 0] rfl (fun _ => by kernel_rfl)) ?_
  refine r_bx (cs := [s0_.v, .int .i64 0]) rfl rfl rfl (fun b1 => ?_)
  refine lp rfl (p_as rfl) ?_
  refine lj_seq ?_
  refine cj_seq ?_
  refine cj_reg ?_
  refine lp rfl (p_mv rfl) ?_
  obtain ⟨y2, hy2, hm⟩ := bindS hm
  refine r_callN [0] cf6 rfl rfl (ok_gleemake_Stream_AProgram b1 s0_ a0 0 5 hy2) rfl rfl (.cons (.ro 0 rfl) .nil) rfl (fun ⟨s3, xg4⟩ => ?_)
  refine r_pure (F := Lk N63 y2.1.Items xg4) (.ro 1 rfl) (fun _ h => h.1) (fun hLs3 => ?_)
  refine lp rfl (p_mv rfl) ?_
  obtain ⟨y5, hy5, hm⟩ := bindS hm
  refine r_call [2] cf7 rfl rfl (ok_gleemake_Stream_ConcertTime b1 s0_ a0 y2.2 hy5) rfl rfl (.cons (.ro 2 rfl) .nil) (fun _ => rfl) rfl (fun _ => ?_)
  refine r_al ty28 rfl (fun b6 => ?_)
  refine r_sb (vs := [s3.v, .int .i64 y2.1.Change, .int .i64 y2.1.Clap, .int .i64 y2.1.Break, .int .i64 y2.1.Half]) (j := 0) ty28 rfl rfl rfl rfl rfl rfl rfl ?_
  refine lp rfl (p_as rfl) ?_
  refine lj_seq ?_
  refine cj_seq ?_
  refine cj_reg ?_
  refine lp rfl (p_lbw ty28 rfl (j := 0) rfl rfl) ?_
  refine lp rfl (p_mv rfl) ?_
  obtain ⟨y7, hy7, hm⟩ := bindS hm
  refine r_call [] cf8 rfl rfl (ok_concert_Timetable y2.1 s3 xg4 y5.1 hy7) rfl rfl (.cons (.ro 3 rfl) (.cons (.row 2 rfl) .nil)) (fun _ => rfl) rfl (fun s8 => ?_)
  refine lp rfl (p_mv rfl) ?_
  refine lp rfl (p_ext rfl rfl) ?_
  refine lp rfl (p_ext rfl rfl) ?_
  refine lp rfl (p_as rfl) ?_
  refine lp rfl (p_as rfl) ?_
  refine lj_seq ?_
  refine cj_seq ?_
  refine cj_reg ?_
  refine lp rfl (p_lbw ty28 rfl (j := 1) rfl rfl) ?_
  obtain ⟨y9, hy9, hm⟩ := bindS hm
  refine r_call [] cf9 rfl rfl (ok_concert_Long y2.1 s3 xg4 hy9) rfl rfl (.cons (.ro 4 rfl) (.cons (.row 3 rfl) .nil)) (fun _ => rfl) rfl (fun _ => ?_)
  refine lp rfl (p_mv rfl) ?_
  refine lp rfl (p_ext rfl rfl) ?_
  refine lp rfl (p_ext rfl rfl) ?_
  refine lp rfl (p_as rfl) ?_
  refine lp rfl (p_as rfl) ?_
  refine lj_seq ?_
  refine cj_seq ?_
  refine cj_reg ?_
  refine lp rfl (p_lbw ty28 rfl (j := 1) rfl rfl) ?_
  obtain ⟨y10, hy10, hm⟩ := bindS hm
  refine r_call [] cf10 rfl rfl (ok_concert_Changes y2.1 s3 xg4 hy10) rfl rfl (.cons (.ro 4 rfl) (.cons (.row 3 rfl) .nil)) (fun _ => rfl) rfl (fun _ => ?_)
  refine lp rfl (p_mv rfl) ?_
  refine lp rfl (p_ext rfl rfl) ?_
  refine lp rfl (p_ext rfl rfl) ?_
  refine lp rfl (p_as rfl) ?_
  refine lp rfl (p_as rfl) ?_
  refine lj_seq ?_
  refine cj_seq ?_
  refine cj_reg ?_
  refine lp rfl (p_lbw ty28 rfl (j := 1) rfl rfl) ?_
  obtain ⟨y11, hy11, hm⟩ := bindS hm
  refine r_call [] cf11 rfl rfl (ok_gleeref2_ProgramFault y2.1 s3 xg4 hy11) rfl rfl (.cons (.ro 4 rfl) (.cons (.row 3 rfl) .nil)) (fun _ => rfl) rfl (fun _ => ?_)
  refine lp rfl (p_as rfl) ?_
  refine lj_seq ?_
  refine cj_seq ?_
  refine cj_reg ?_
  refine lp rfl (p_mv rfl) ?_
  refine lp rfl (p_as rfl) ?_
  refine lj_seq ?_
  refine cj_seq ?_
  refine cj_reg ?_
  refine lp rfl (p_as rfl) ?_
  refine lp rfl (p_as rfl) ?_
  refine lj_seq ?_
  refine cj_seq ?_
  refine cj_seq ?_
  refine cj_reg ?_
  refine lp rfl (p_mv rfl) ?_
  refine lp rfl (p_eql rfl rfl) ?_
  refine lj_seq ?_
  obtain ⟨k14, hk14, hm⟩ := bindS hm
  have hRk14 : ∀ t, k14 = .inr t → some t = some r := fun t e => by rw [e] at hm; exact hm
  refine cj_joinK (σ := (Int × Int × Int)) (γ := Unit) (fun u12 => k14 = .inl u12) (fun u12 g13 => [(2, .bool false), (4, .pointer (some ⟨b6, 0, none⟩)), (5, .int .i64 y5.1), (6, s8.v), (7, .int .i64 y7.2), (8, .int .i64 y9.1), (9, .int .i64 y9.2), (10, .int .i64 y10.1), (11, .int .i64 y10.2), (12, .int .i64 y11), (13, .int .i64 u12.1), (14, .int .i64 u12.2.1), (15, .int .i64 u12.2.2)]) (fun u12 g13 => Sat w0 (keys ([] : List Ent)) A [.row R46 (SV.v s8) y7.1, .box b6 28 [s3.v, .int .i64 y2.1.Change, .int .i64 y2.1.Clap, .int .i64 y2.1.Break, .int .i64 y2.1.Half], .row N63.R (SV.v s3) xg4, .ro (Lk N63 y2.1.Items xg4)]) (fun u12 g13 hq => ?_) (fun J cnk14 => ?_)
  · have hm := Sum.fin_l hq hm
    refine cj_seq ?_
    refine cj_reg ?_
    refine lp rfl (p_as rfl) ?_
    refine lj_seq ?_
    refine cj_seq ?_
    refine cj_seq ?_
    refine cj_reg ?_
    refine lp rfl (p_mv rfl) ?_
    refine lp rfl (p_eql rfl rfl) ?_
    refine lj_seq ?_
    obtain ⟨k21, hk21, hm⟩ := bindS hm
    have hRk21 : ∀ t, k21 = .inr t → some t = some r := fun t e => by rw [e] at hm; exact hm
    refine cj_joinK (σ := (List TTimed)) (γ := SV) (fun u18 => k21 = .inl u18) (fun u18 g19 => [(2, .bool false), (4, .pointer (some ⟨b6, 0, none⟩)), (6, s8.v), (7, .int .i64 y7.2), (8, .int .i64 y9.1), (9, .int .i64 y9.2), (10, .int .i64 y10.1), (11, .int .i64 y10.2), (12, .int .i64 y11), (13, .int .i64 u12.1), (14, .int .i64 u12.2.1), (15, .int .i64 u12.2.2), (16, g19.v)]) (fun u18 g19 => Sat w0 (keys ([] : List Ent)) A [.row R46 (SV.v s8) y7.1, .box b6 28 [s3.v, .int .i64 y2.1.Change, .int .i64 y2.1.Clap, .int .i64 y2.1.Break, .int .i64 y2.1.Half], .row N63.R (SV.v s3) xg4, .ro (Lk N63 y2.1.Items xg4), .row R46 (SV.v g19) u18]) (fun u18 g19 hq => ?_) (fun J cnk21 => ?_)
    · have hm := Sum.fin_l hq hm
      refine cj_seq ?_
      refine cj_quiet (by kernel_rfl) (by kernel_rfl) ?_
      refine q_p rfl (p_fab fl28_0 rfl) ?_
      refine q_p rfl (p_lbs ty26 rfl (j := 1) rfl rfl) ?_
      obtain ⟨y25, hy25, hm⟩ := bindS hm
      refine q_call (.int .i64 y25) cf16 rfl rfl (ok_concert_CheckItems s3 xg4 y2.1.Items hy25) (.cons (.ro 3 rfl) (.cons (.row 2 rfl) .nil)) (fun _ => rfl) (fun _ => rfl) rfl ?_
      refine q_p rfl (p_fab fl28_0 rfl) ?_
      refine q_p rfl (p_lbs ty26 rfl (j := 1) rfl rfl) ?_
      obtain ⟨y26, hy26, hm⟩ := bindS hm
      refine q_call (.int .i64 y26) cf17 rfl rfl (ok_gleeref2_ItemsFault s3 xg4 y2.1.Items hy26) (.cons (.ro 3 rfl) (.cons (.row 2 rfl) .nil)) (fun _ => rfl) (fun _ => rfl) rfl ?_
      refine q_p rfl (p_eql rfl rfl) ?_
      refine q_p rfl (p_mv rfl) ?_
      refine q_case (i := 64) (y25 == y26) rfl (fun hb => ?_) (fun hb => ?_)
      · have hm := ifB_t hb hm
        refine q_g true rfl rfl rfl ?_
        refine q_p rfl (p_lbw ty28 rfl (j := 1) rfl rfl) ?_
        refine q_g true rfl rfl rfl ?_
        obtain ⟨y27, hy27, hm⟩ := bindS hm
        refine q_call (.int .i64 y27) cf18 rfl rfl (ok_concert_CheckProgram y2.1 s3 xg4 hy27) (.cons (.ro 3 rfl) (.cons (.row 2 rfl) .nil)) (fun _ => rfl) (fun _ => rfl) rfl ?_
        refine q_g true rfl rfl rfl ?_
        refine q_p rfl (p_mv rfl) ?_
        refine q_g true rfl rfl rfl ?_
        refine q_p rfl (p_eql rfl rfl) ?_
        refine q_p rfl (p_pkt rfl rfl) ?_
        refine q_p rfl (p_mv rfl) ?_
        refine q_case (i := 70) (y27 == y11) rfl (fun hb => ?_) (fun hb => ?_)
        · have hm := ifB_t hb hm
          refine q_g true rfl rfl rfl ?_
          refine q_p rfl (p_mv rfl) ?_
          refine q_g true rfl rfl rfl ?_
          refine q_p rfl (p_mv rfl) ?_
          refine q_g true rfl rfl rfl ?_
          refine q_p rfl (p_eql rfl rfl) ?_
          refine q_p rfl (p_pkt rfl rfl) ?_
          refine q_p rfl (p_mv rfl) ?_
          refine q_case (i := 75) (y7.2 == u12.1) rfl (fun hb => ?_) (fun hb => ?_)
          · have hm := ifB_t hb hm
            refine q_g true rfl rfl rfl ?_
            refine q_p rfl (p_mv rfl) ?_
            refine q_g true rfl rfl rfl ?_
            refine q_p rfl (p_mv rfl) ?_
            refine q_g true rfl rfl rfl ?_
            obtain ⟨y28, hy28, hm⟩ := bindS hm
            refine q_call (.bool y28) cf19 rfl rfl (ok_slices_Equal_api_Timed_api_Timed s8 y7.1 g19 u18 hy28) (.cons (.row 0 rfl) (.cons (.row 4 rfl) .nil)) (fun _ => rfl) (fun _ => rfl) rfl ?_
            refine q_p rfl (p_pkt rfl rfl) ?_
            refine q_p rfl (p_mv rfl) ?_
            refine q_case (i := 80) y28 rfl (fun hb => ?_) (fun hb => ?_)
            · have hm := ifB_t hb hm
              refine q_g true rfl rfl rfl ?_
              refine q_p rfl (p_mv rfl) ?_
              refine q_g true rfl rfl rfl ?_
              refine q_p rfl (p_mv rfl) ?_
              refine q_g true rfl rfl rfl ?_
              refine q_p rfl (p_eql rfl rfl) ?_
              refine q_p rfl (p_pkt rfl rfl) ?_
              refine q_p rfl (p_mv rfl) ?_
              refine q_case (i := 85) (y9.2 == y11) rfl (fun hb => ?_) (fun hb => ?_)
              · have hm := ifB_t hb hm
                refine q_g true rfl rfl rfl ?_
                refine q_p rfl (p_mv rfl) ?_
                refine q_g true rfl rfl rfl ?_
                refine q_p rfl (p_mv rfl) ?_
                refine q_g true rfl rfl rfl ?_
                refine q_p rfl (p_eql rfl rfl) ?_
                refine q_p rfl (p_pkt rfl rfl) ?_
                refine q_p rfl (p_mv rfl) ?_
                refine q_case (i := 90) (y9.1 == u12.2.1) rfl (fun hb => ?_) (fun hb => ?_)
                · have hm := ifB_t hb hm
                  refine q_g true rfl rfl rfl ?_
                  refine q_p rfl (p_mv rfl) ?_
                  refine q_g true rfl rfl rfl ?_
                  refine q_p rfl (p_mv rfl) ?_
                  refine q_g true rfl rfl rfl ?_
                  refine q_p rfl (p_eql rfl rfl) ?_
                  refine q_p rfl (p_pkt rfl rfl) ?_
                  refine q_p rfl (p_mv rfl) ?_
                  refine q_case (i := 95) (y10.2 == y11) rfl (fun hb => ?_) (fun hb => ?_)
                  · have hm := ifB_t hb hm
                    refine q_g true rfl rfl rfl ?_
                    refine q_p rfl (p_mv rfl) ?_
                    refine q_g true rfl rfl rfl ?_
                    refine q_p rfl (p_mv rfl) ?_
                    refine q_g true rfl rfl rfl ?_
                    refine q_p rfl (p_eql rfl rfl) ?_
                    refine q_p rfl (p_pkt rfl rfl) ?_
                    refine q_p rfl (p_mv rfl) ?_
                    refine q_case (i := 100) (y10.1 == u12.2.2) rfl (fun hb => ?_) (fun hb => ?_)
                    · have hm := ifB_t hb hm
                      refine q_g true rfl rfl rfl ?_
                      obtain ⟨y29, hy29, hm⟩ := bindS hm
                      refine q_call (.bool y29) cf20 rfl rfl (ok_gleelaw2_sung  hy29) .nil (fun _ => rfl) (fun _ => rfl) rfl ?_
                      refine q_p rfl (p_pkt rfl rfl) ?_
                      refine q_p rfl (p_as rfl) ?_
                      refine q_nil ?_
                      refine nj_seq ?_
                      obtain rfl := Option.some.inj hm
                      exact cj_rt () [] Tryd.results3 (.tmp rfl .nil) rfl rfl
                    · have hm := ifB_f hb hm
                      refine q_s true rfl rfl rfl rfl ?_
                      refine q_p rfl (p_pkf rfl rfl) ?_
                      refine q_p rfl (p_as rfl) ?_
                      refine q_nil ?_
                      refine nj_seq ?_
                      obtain rfl := Option.some.inj hm
                      exact cj_rt () [] Tryd.results3 (.tmp rfl .nil) rfl rfl
                  · have hm := ifB_f hb hm
                    refine q_s true rfl rfl rfl rfl ?_
                    refine q_s true rfl rfl rfl rfl ?_
                    refine q_s true rfl rfl rfl rfl ?_
                    refine q_p rfl (p_pkf rfl rfl) ?_
                    refine q_p rfl (p_mv rfl) ?_
                    refine q_s true rfl rfl rfl rfl ?_
                    refine q_p rfl (p_pkf rfl rfl) ?_
                    refine q_p rfl (p_as rfl) ?_
                    refine q_nil ?_
                    refine nj_seq ?_
                    obtain rfl := Option.some.inj hm
                    exact cj_rt () [] Tryd.results3 (.tmp rfl .nil) rfl rfl
                · have hm := ifB_f hb hm
                  refine q_s true rfl rfl rfl rfl ?_
                  refine q_s true rfl rfl rfl rfl ?_
                  refine q_s true rfl rfl rfl rfl ?_
                  refine q_p rfl (p_pkf rfl rfl) ?_
                  refine q_p rfl (p_mv rfl) ?_
                  refine q_s true rfl rfl rfl rfl ?_
                  refine q_s true rfl rfl rfl rfl ?_
                  refine q_s true rfl rfl rfl rfl ?_
                  refine q_p rfl (p_pkf rfl rfl) ?_
                  refine q_p rfl (p_mv rfl) ?_
                  refine q_s true rfl rfl rfl rfl ?_
                  refine q_p rfl (p_pkf rfl rfl) ?_
                  refine q_p rfl (p_as rfl) ?_
                  refine q_nil ?_
                  refine nj_seq ?_
                  obtain rfl := Option.some.inj hm
                  exact cj_rt () [] Tryd.results3 (.tmp rfl .nil) rfl rfl
              · have hm := ifB_f hb hm
                refine q_s true rfl rfl rfl rfl ?_
                refine q_s true rfl rfl rfl rfl ?_
                refine q_s true rfl rfl rfl rfl ?_
                refine q_p rfl (p_pkf rfl rfl) ?_
                refine q_p rfl (p_mv rfl) ?_
                refine q_s true rfl rfl rfl rfl ?_
                refine q_s true rfl rfl rfl rfl ?_
                refine q_s true rfl rfl rfl rfl ?_
                refine q_p rfl (p_pkf rfl rfl) ?_
                refine q_p rfl (p_mv rfl) ?_
                refine q_s true rfl rfl rfl rfl ?_
                refine q_s true rfl rfl rfl rfl ?_
                refine q_s true rfl rfl rfl rfl ?_
                refine q_p rfl (p_pkf rfl rfl) ?_
                refine q_p rfl (p_mv rfl) ?_
                refine q_s true rfl rfl rfl rfl ?_
                refine q_p rfl (p_pkf rfl rfl) ?_
                refine q_p rfl (p_as rfl) ?_
                refine q_nil ?_
                refine nj_seq ?_
                obtain rfl := Option.some.inj hm
                exact cj_rt () [] Tryd.results3 (.tmp rfl .nil) rfl rfl
            · have hm := ifB_f hb hm
              refine q_s true rfl rfl rfl rfl ?_
              refine q_s true rfl rfl rfl rfl ?_
              refine q_s true rfl rfl rfl rfl ?_
              refine q_p rfl (p_pkf rfl rfl) ?_
              refine q_p rfl (p_mv rfl) ?_
              refine q_s true rfl rfl rfl rfl ?_
              refine q_s true rfl rfl rfl rfl ?_
              refine q_s true rfl rfl rfl rfl ?_
              refine q_p rfl (p_pkf rfl rfl) ?_
              refine q_p rfl (p_mv rfl) ?_
              refine q_s true rfl rfl rfl rfl ?_
              refine q_s true rfl rfl rfl rfl ?_
              refine q_s true rfl rfl rfl rfl ?_
              refine q_p rfl (p_pkf rfl rfl) ?_
              refine q_p rfl (p_mv rfl) ?_
              refine q_s true rfl rfl rfl rfl ?_
              refine q_s true rfl rfl rfl rfl ?_
              refine q_s true rfl rfl rfl rfl ?_
              refine q_p rfl (p_pkf rfl rfl) ?_
              refine q_p rfl (p_mv rfl) ?_
              refine q_s true rfl rfl rfl rfl ?_
              refine q_p rfl (p_pkf rfl rfl) ?_
              refine q_p rfl (p_as rfl) ?_
              refine q_nil ?_
              refine nj_seq ?_
              obtain rfl := Option.some.inj hm
              exact cj_rt () [] Tryd.results3 (.tmp rfl .nil) rfl rfl
          · have hm := ifB_f hb hm
            refine q_s true rfl rfl rfl rfl ?_
            refine q_s true rfl rfl rfl rfl ?_
            refine q_s true rfl rfl rfl rfl ?_
            refine q_p rfl (p_pkf rfl rfl) ?_
            refine q_p rfl (p_mv rfl) ?_
            refine q_s true rfl rfl rfl rfl ?_
            refine q_s true rfl rfl rfl rfl ?_
            refine q_s true rfl rfl rfl rfl ?_
            refine q_p rfl (p_pkf rfl rfl) ?_
            refine q_p rfl (p_mv rfl) ?_
            refine q_s true rfl rfl rfl rfl ?_
            refine q_s true rfl rfl rfl rfl ?_
            refine q_s true rfl rfl rfl rfl ?_
            refine q_p rfl (p_pkf rfl rfl) ?_
            refine q_p rfl (p_mv rfl) ?_
            refine q_s true rfl rfl rfl rfl ?_
            refine q_s true rfl rfl rfl rfl ?_
            refine q_s true rfl rfl rfl rfl ?_
            refine q_p rfl (p_pkf rfl rfl) ?_
            refine q_p rfl (p_mv rfl) ?_
            refine q_s true rfl rfl rfl rfl ?_
            refine q_s true rfl rfl rfl rfl ?_
            refine q_s true rfl rfl rfl rfl ?_
            refine q_p rfl (p_pkf rfl rfl) ?_
            refine q_p rfl (p_mv rfl) ?_
            refine q_s true rfl rfl rfl rfl ?_
            refine q_p rfl (p_pkf rfl rfl) ?_
            refine q_p rfl (p_as rfl) ?_
            refine q_nil ?_
            refine nj_seq ?_
            obtain rfl := Option.some.inj hm
            exact cj_rt () [] Tryd.results3 (.tmp rfl .nil) rfl rfl
        · have hm := ifB_f hb hm
          refine q_s true rfl rfl rfl rfl ?_
          refine q_s true rfl rfl rfl rfl ?_
          refine q_s true rfl rfl rfl rfl ?_
          refine q_p rfl (p_pkf rfl rfl) ?_
          refine q_p rfl (p_mv rfl) ?_
          refine q_s true rfl rfl rfl rfl ?_
          refine q_s true rfl rfl rfl rfl ?_
          refine q_s true rfl rfl rfl rfl ?_
          refine q_p rfl (p_pkf rfl rfl) ?_
          refine q_p rfl (p_mv rfl) ?_
          refine q_s true rfl rfl rfl rfl ?_
          refine q_s true rfl rfl rfl rfl ?_
          refine q_s true rfl rfl rfl rfl ?_
          refine q_p rfl (p_pkf rfl rfl) ?_
          refine q_p rfl (p_mv rfl) ?_
          refine q_s true rfl rfl rfl rfl ?_
          refine q_s true rfl rfl rfl rfl ?_
          refine q_s true rfl rfl rfl rfl ?_
          refine q_p rfl (p_pkf rfl rfl) ?_
          refine q_p rfl (p_mv rfl) ?_
          refine q_s true rfl rfl rfl rfl ?_
          refine q_s true rfl rfl rfl rfl ?_
          refine q_s true rfl rfl rfl rfl ?_
          refine q_p rfl (p_pkf rfl rfl) ?_
          refine q_p rfl (p_mv rfl) ?_
          refine q_s true rfl rfl rfl rfl ?_
          refine q_s true rfl rfl rfl rfl ?_
          refine q_s true rfl rfl rfl rfl ?_
          refine q_p rfl (p_pkf rfl rfl) ?_
          refine q_p rfl (p_mv rfl) ?_
          refine q_s true rfl rfl rfl rfl ?_
          refine q_p rfl (p_pkf rfl rfl) ?_
          refine q_p rfl (p_as rfl) ?_
          refine q_nil ?_
          refine nj_seq ?_
          obtain rfl := Option.some.inj hm
          exact cj_rt () [] Tryd.results3 (.tmp rfl .nil) rfl rfl
      · have hm := ifB_f hb hm
        refine q_s true rfl rfl rfl rfl ?_
        refine q_s true rfl rfl rfl rfl ?_
        refine q_s true rfl rfl rfl rfl ?_
        refine q_s true rfl rfl rfl rfl ?_
        refine q_p rfl (p_pkf rfl rfl) ?_
        refine q_p rfl (p_mv rfl) ?_
        refine q_s true rfl rfl rfl rfl ?_
        refine q_s true rfl rfl rfl rfl ?_
        refine q_s true rfl rfl rfl rfl ?_
        refine q_p rfl (p_pkf rfl rfl) ?_
        refine q_p rfl (p_mv rfl) ?_
        refine q_s true rfl rfl rfl rfl ?_
        refine q_s true rfl rfl rfl rfl ?_
        refine q_s true rfl rfl rfl rfl ?_
        refine q_p rfl (p_pkf rfl rfl) ?_
        refine q_p rfl (p_mv rfl) ?_
        refine q_s true rfl rfl rfl rfl ?_
        refine q_s true rfl rfl rfl rfl ?_
        refine q_s true rfl rfl rfl rfl ?_
        refine q_p rfl (p_pkf rfl rfl) ?_
        refine q_p rfl (p_mv rfl) ?_
        refine q_s true rfl rfl rfl rfl ?_
        refine q_s true rfl rfl rfl rfl ?_
        refine q_s true rfl rfl rfl rfl ?_
        refine q_p rfl (p_pkf rfl rfl) ?_
        refine q_p rfl (p_mv rfl) ?_
        refine q_s true rfl rfl rfl rfl ?_
        refine q_s true rfl rfl rfl rfl ?_
        refine q_s true rfl rfl rfl rfl ?_
        refine q_p rfl (p_pkf rfl rfl) ?_
        refine q_p rfl (p_mv rfl) ?_
        refine q_s true rfl rfl rfl rfl ?_
        refine q_s true rfl rfl rfl rfl ?_
        refine q_s true rfl rfl rfl rfl ?_
        refine q_p rfl (p_pkf rfl rfl) ?_
        refine q_p rfl (p_mv rfl) ?_
        refine q_s true rfl rfl rfl rfl ?_
        refine q_p rfl (p_pkf rfl rfl) ?_
        refine q_p rfl (p_as rfl) ?_
        refine q_nil ?_
        refine nj_seq ?_
        obtain rfl := Option.some.inj hm
        exact cj_rt () [] Tryd.results3 (.tmp rfl .nil) rfl rfl
    · have hm := hk21
      refine cj_if (b := u12.1 == 0) rfl (fun hb => ?_) (fun hb => ?_)
      · have hm := ifB_t hb hm
        refine cj_reg ?_
        refine lp rfl (p_lbw ty28 rfl (j := 1) rfl rfl) ?_
        refine lp rfl (p_mv rfl) ?_
        obtain ⟨y22, hy22, hm⟩ := bindS hm
        refine r_call [] cf15 rfl rfl (ok_gleeref2_TimedOf y2.1 s3 xg4 y5.1 hy22) rfl rfl (.cons (.ro 3 rfl) (.cons (.row 2 rfl) .nil)) (fun _ => rfl) rfl (fun s23 => ?_)
        refine lp rfl (p_as rfl) ?_
        refine lj_nil ?_
        exact cnk21 _ _ y22 s23 (Option.some.inj hm).symm ⟨rfl, rfl, rfl, rfl, rfl, rfl, rfl, rfl, rfl, rfl, rfl, rfl, rfl, trivial⟩ (fun _ h => h.picks [1, 1, 1, 1, 0] rfl)
      · have hm := ifB_f hb hm
        refine cj_skip ?_
        refine nj_nil R46 ?_
        exact cnk21 _ _ [] nilS (Option.some.inj hm).symm ⟨rfl, rfl, rfl, rfl, rfl, rfl, rfl, rfl, rfl, rfl, rfl, rfl, rfl, trivial⟩ (fun _ h => h.picks [1, 1, 1, 1, 0] rfl)
  · have hm := hk14
    refine cj_if (b := y11 == 0) rfl (fun hb => ?_) (fun hb => ?_)
    · have hm := ifB_t hb hm
      refine cj_seq ?_
      refine cj_reg ?_
      refine lp rfl (p_lbw ty28 rfl (j := 1) rfl rfl) ?_
      refine lp rfl (p_mv rfl) ?_
      obtain ⟨y15, hy15, hm⟩ := bindS hm
      refine r_call [] cf12 rfl rfl (ok_gleeref2_BeginFault y2.1 s3 xg4 y5.1 hy15) rfl rfl (.cons (.ro 4 rfl) (.cons (.row 3 rfl) .nil)) (fun _ => rfl) rfl (fun _ => ?_)
      refine lp rfl (p_as rfl) ?_
      refine lj_seq ?_
      refine cj_quiet (by kernel_rfl) (by kernel_rfl) ?_
      refine q_p rfl (p_lbw ty28 rfl (j := 1) rfl rfl) ?_
      obtain ⟨y16, hy16, hm⟩ := bindS hm
      refine q_call (.int .i64 y16) cf13 rfl rfl (ok_gleeref2_LongOfProgram y2.1 s3 xg4 hy16) (.cons (.ro 4 rfl) (.cons (.row 3 rfl) .nil)) (fun _ => rfl) (fun _ => rfl) rfl ?_
      refine q_p rfl (p_lbw ty28 rfl (j := 1) rfl rfl) ?_
      obtain ⟨y17, hy17, hm⟩ := bindS hm
      refine q_call (.int .i64 y17) cf14 rfl rfl (ok_gleeref2_ChangesIn y2.1 s3 xg4 hy17) (.cons (.ro 4 rfl) (.cons (.row 3 rfl) .nil)) (fun _ => rfl) (fun _ => rfl) rfl ?_
      refine q_p rfl (p_as rfl) ?_
      refine q_p rfl (p_as rfl) ?_
      refine q_nil ?_
      exact cnk14 _ _ (y15, y16, y17) () (Option.some.inj hm).symm ⟨rfl, rfl, rfl, rfl, rfl, rfl, rfl, rfl, rfl, rfl, rfl, rfl, rfl, trivial⟩ (fun _ h => h.picks [0, 0, 1, 1] rfl)
    · have hm := ifB_f hb hm
      refine cj_skip ?_
      exact cnk14 _ _ (y11, 0, 0) () (Option.some.inj hm).symm ⟨rfl, rfl, rfl, rfl, rfl, rfl, rfl, rfl, rfl, rfl, rfl, rfl, rfl, trivial⟩ (fun _ h => h.picks [0, 0, 1, 1] rfl)
end Go.Proofs.YtpllnghmnihjhaaDoor
