/- The walks. Written by program. -/
import Derived.Test.YtndkkkgkmeijlaaDoorW
namespace Go.Proofs.YtndkkkgkmeijlaaDoor
open Go Go.J Go.G
set_option maxRecDepth 100000
set_option linter.unusedVariables false
theorem ok_gleelaw2_ChordsFound (s0_ : SV) (a0 : (List Int)) {r : Bool} (hm : m_gleelaw2_ChordsFound a0 = some r) :
    Ctr Tryd.prog 3 [s0_.v].toArray ([] : List Ent) [RdS R3 (SV.v s0_) a0] (X := Unit) (fun _ => .bool r) (fun _ => []) := by
  unfold m_gleelaw2_ChordsFound at hm
  refine ctr_mk (vs := [(0, s0_.v)]) Tryd.func3 rfl Tryd.ntmps3 rfl ⟨rfl, trivial⟩ (fun w0 A => ?_)
  refine cj_seq ?_
  refine cj_reg ?_
  refine lp rfl (p_as rfl) ?_
  refine lj_seq ?_
  refine cj_seq ?_
  refine cj_reg ?_
  refine lp rfl (p_mv rfl) ?_
  refine lp rfl (p_bld [s0_.v, .int .i64 0] rfl (fun _ => by kernel_rfl)) ?_
  refine r_bx (cs := [s0_.v, .int .i64 0]) rfl rfl rfl (fun b1 => ?_)
  refine lp rfl (p_as rfl) ?_
  refine lj_seq ?_
  refine cj_seq ?_
  refine cj_reg ?_
  refine lp rfl (p_mv rfl) ?_
  obtain ⟨y2, hy2, hm⟩ := bindS hm
  refine r_call [0] cf8 rfl rfl (ok_gleemake_Stream_Notes b1 s0_ a0 0 hy2) rfl rfl (.cons (.ro 0 rfl) .nil) (fun _ => rfl) rfl (fun s3 => ?_)
  refine lp rfl (p_mv rfl) ?_
  obtain ⟨y4, hy4, hm⟩ := bindS hm
  refine r_call [1] cf9 rfl rfl (ok_gleemake_Stream_AChord b1 s0_ a0 y2.2 hy4) rfl rfl (.cons (.ro 1 rfl) .nil) (fun _ => rfl) rfl (fun _ => ?_)
  refine lp rfl (p_mv rfl) ?_
  obtain ⟨y5, hy5, hm⟩ := bindS hm
  refine r_call [0] cf9 rfl rfl (ok_gleemake_Stream_AChord b1 s0_ a0 y4.2 hy5) rfl rfl (.cons (.ro 1 rfl) .nil) (fun _ => rfl) rfl (fun _ => ?_)
  refine lp rfl (p_mv rfl) ?_
  refine r_bs R3 [0, 1, 7, (-5), 127, (-127), 128, (-128)] rfl rfl rfl (fun _ => by kernel_rfl) rfl (fun s6 => ?_)
  obtain ⟨y7, hy7, hm⟩ := bindS hm
  refine r_call [1] cf10 rfl rfl (ok_gleemake_Stream_Pick b1 s0_ a0 y5.2 s6 [0, 1, 7, (-5), 127, (-127), 128, (-128)] hy7) rfl rfl (.cons (.ro 2 rfl) (.cons (.row 0 rfl) .nil)) (fun _ => rfl) rfl (fun _ => ?_)
  refine lp rfl (p_mv rfl) ?_
  refine lp rfl (p_mv rfl) ?_
  obtain ⟨y8, hy8, hm⟩ := bindS hm
  refine r_call [0] cf12 rfl rfl (ok_gleemake_Stream_Range b1 s0_ a0 y7.2 0 4 hy8) rfl rfl (.cons (.ro 2 rfl) .nil) (fun _ => rfl) rfl (fun _ => ?_)
  obtain ⟨y9, hy9, hm⟩ := bindS hm
  refine r_call [0] cf11 rfl rfl (ok_gleemake_Stream_Chords b1 s0_ a0 y8.2 y8.1 hy9) rfl rfl (.cons (.ro 2 rfl) .nil) (fun _ => rfl) rfl (fun s10 => ?_)
  refine r_al ty28 rfl (fun b11 => ?_)
  refine r_al ty28 rfl (fun b12 => ?_)
  refine lp rfl (p_as rfl) ?_
  refine r_sb (vs := [.int .i64 y4.1.Root, .int .i64 y4.1.Kind, .int .i64 y4.1.Turn]) (j := 1) ty28 rfl rfl rfl rfl rfl rfl rfl ?_
  refine r_sb (vs := [.int .i64 y5.1.Root, .int .i64 y5.1.Kind, .int .i64 y5.1.Turn]) (j := 0) ty28 rfl rfl rfl rfl rfl rfl rfl ?_
  refine lp rfl (p_as rfl) ?_
  refine lp rfl (p_as rfl) ?_
  refine lj_seq ?_
  refine cj_seq ?_
  refine cj_reg ?_
  refine lp rfl (p_mv rfl) ?_
  obtain ⟨y13, hy13, hm⟩ := bindS hm
  refine r_call [] cf13 rfl rfl (ok_chord_Of s3 y2.1 hy13) rfl rfl (.cons (.row 5 rfl) .nil) (fun _ => rfl) rfl (fun s14 => ?_)
  refine lp rfl (p_mv rfl) ?_
  refine lp rfl (p_ext rfl rfl) ?_
  refine lp rfl (p_ext rfl rfl) ?_
  refine lp rfl (p_as rfl) ?_
  refine lp rfl (p_as rfl) ?_
  refine lj_seq ?_
  refine cj_seq ?_
  refine cj_reg ?_
  refine lp rfl (p_lbw ty28 rfl (j := 2) rfl rfl) ?_
  refine lp rfl (p_lbw ty28 rfl (j := 1) rfl rfl) ?_
  obtain ⟨y15, hy15, hm⟩ := bindS hm
  refine r_call [] cf14 rfl rfl (ok_chord_Shared y4.1 y5.1 hy15) rfl rfl .nil (fun _ => rfl) rfl (fun _ => ?_)
  refine lp rfl (p_mv rfl) ?_
  refine lp rfl (p_ext rfl rfl) ?_
  refine lp rfl (p_ext rfl rfl) ?_
  refine lp rfl (p_as rfl) ?_
  refine lp rfl (p_as rfl) ?_
  refine lj_seq ?_
  refine cj_seq ?_
  refine cj_reg ?_
  refine lp rfl (p_lbw ty28 rfl (j := 2) rfl rfl) ?_
  refine lp rfl (p_mv rfl) ?_
  obtain ⟨y16, hy16, hm⟩ := bindS hm
  refine r_call [] cf15 rfl rfl (ok_chord_Shift y4.1 y7.1 hy16) rfl rfl .nil (fun _ => rfl) rfl (fun _ => ?_)
  refine lp rfl (p_mv rfl) ?_
  refine lp rfl (p_ext rfl rfl) ?_
  refine lp rfl (p_ext rfl rfl) ?_
  refine r_al ty28 rfl (fun b17 => ?_)
  refine r_sb (vs := [.int .i64 y16.1.Root, .int .i64 y16.1.Kind, .int .i64 y16.1.Turn]) (j := 0) ty28 rfl rfl rfl rfl rfl rfl rfl ?_
  refine lp rfl (p_as rfl) ?_
  refine lj_seq ?_
  refine cj_seq ?_
  refine cj_reg ?_
  refine lp rfl (p_mv rfl) ?_
  obtain ⟨y18, hy18, hm⟩ := bindS hm
  refine r_call [] cf16 rfl rfl (ok_chord_Keys s10 y9.1 hy18) rfl rfl (.cons (.row 4 rfl) .nil) (fun _ => rfl) rfl (fun s19 => ?_)
  refine lp rfl (p_mv rfl) ?_
  refine lp rfl (p_ext rfl rfl) ?_
  refine lp rfl (p_ext rfl rfl) ?_
  refine lp rfl (p_as rfl) ?_
  refine lp rfl (p_as rfl) ?_
  refine lj_seq ?_
  refine cj_seq ?_
  obtain ⟨k22, hk22, hm⟩ := bindS hm
  have hRk22 : ∀ t, k22 = .inr t → some t = some r := fun t e => by rw [e] at hm; exact hm
  refine cj_joinK (σ := (Int × Int × Int × Int)) (γ := Unit) (fun u20 => k22 = .inl u20) (fun u20 g21 => [(2, .bool false), (4, s3.v), (5, .pointer (some ⟨b11, 0, none⟩)), (6, .pointer (some ⟨b12, 0, none⟩)), (7, .int .i64 y7.1), (8, s10.v), (9, s14.v), (10, .int .i64 y13.2), (11, .int .i64 y15.1), (12, .int .i64 y15.2), (13, .pointer (some ⟨b17, 0, none⟩)), (14, .int .i64 y16.2), (15, s19.v), (16, .int .i64 y18.2), (17, .int .i64 u20.1), (18, .int .i64 u20.2.1), (19, .int .i64 u20.2.2.1), (20, .int .i64 u20.2.2.2)]) (fun u20 g21 => Sat w0 (keys ([] : List Ent)) A [.row R3 (SV.v s19) y18.1, .box b17 28 [.int .i64 y16.1.Root, .int .i64 y16.1.Kind, .int .i64 y16.1.Turn], .row R28 (SV.v s14) y13.1, .box b12 28 [.int .i64 y5.1.Root, .int .i64 y5.1.Kind, .int .i64 y5.1.Turn], .box b11 28 [.int .i64 y4.1.Root, .int .i64 y4.1.Kind, .int .i64 y4.1.Turn], .row R28 (SV.v s10) y9.1, .row R3 (SV.v s3) y2.1]) (fun u20 g21 hq => ?_) (fun J cnk22 => ?_)
  · have hm := Sum.fin_l hq hm
    refine cj_seq ?_
    refine cj_reg ?_
    refine lp rfl (p_as rfl) ?_
    refine lj_seq ?_
    refine cj_seq ?_
    refine cj_seq ?_
    refine cj_reg ?_
    refine lp rfl (p_mv rfl) ?_
    refine lp rfl (p_eql rfl rfl) ?_
    refine lj_seq ?_
    obtain ⟨k43, hk43, hm⟩ := bindS hm
    have hRk43 : ∀ t, k43 = .inr t → some t = some r := fun t e => by rw [e] at hm; exact hm
    refine cj_joinK (σ := (List TChord)) (γ := SV) (fun u40 => k43 = .inl u40) (fun u40 g41 => [(2, .bool false), (5, .pointer (some ⟨b11, 0, none⟩)), (6, .pointer (some ⟨b12, 0, none⟩)), (7, .int .i64 y7.1), (8, s10.v), (9, s14.v), (10, .int .i64 y13.2), (11, .int .i64 y15.1), (12, .int .i64 y15.2), (13, .pointer (some ⟨b17, 0, none⟩)), (14, .int .i64 y16.2), (15, s19.v), (16, .int .i64 y18.2), (17, .int .i64 u20.1), (18, .int .i64 u20.2.1), (19, .int .i64 u20.2.2.1), (20, .int .i64 u20.2.2.2), (21, g41.v)]) (fun u40 g41 => Sat w0 (keys ([] : List Ent)) A [.row R3 (SV.v s19) y18.1, .box b17 28 [.int .i64 y16.1.Root, .int .i64 y16.1.Kind, .int .i64 y16.1.Turn], .row R28 (SV.v s14) y13.1, .box b12 28 [.int .i64 y5.1.Root, .int .i64 y5.1.Kind, .int .i64 y5.1.Turn], .box b11 28 [.int .i64 y4.1.Root, .int .i64 y4.1.Kind, .int .i64 y4.1.Turn], .row R28 (SV.v s10) y9.1, .row R28 (SV.v g41) u40]) (fun u40 g41 hq => ?_) (fun J cnk43 => ?_)
    · have hm := Sum.fin_l hq hm
      refine cj_seq ?_
      refine cj_reg ?_
      refine lp rfl (p_bld [.int .i64 0, .int .i64 0, .int .i64 0] rfl (fun _ => by kernel_rfl)) ?_
      refine r_al ty28 rfl (fun b47 => ?_)
      refine lp rfl (p_as rfl) ?_
      refine r_sb (vs := [.int .i64 0, .int .i64 0, .int .i64 0]) (j := 0) ty28 rfl rfl rfl rfl rfl rfl rfl ?_
      refine lj_seq ?_
      refine cj_seq ?_
      refine cj_seq ?_
      refine cj_reg ?_
      refine lp rfl (p_mv rfl) ?_
      refine lp rfl (p_eql rfl rfl) ?_
      refine lj_seq ?_
      obtain ⟨k50, hk50, hm⟩ := bindS hm
      have hRk50 : ∀ t, k50 = .inr t → some t = some r := fun t e => by rw [e] at hm; exact hm
      refine cj_joinK (σ := Int) (γ := Unit) (fun u48 => k50 = .inl u48) (fun u48 g49 => [(2, .bool false), (5, .pointer (some ⟨b11, 0, none⟩)), (7, .int .i64 y7.1), (8, s10.v), (9, s14.v), (10, .int .i64 y13.2), (11, .int .i64 y15.1), (12, .int .i64 y15.2), (13, .pointer (some ⟨b17, 0, none⟩)), (14, .int .i64 y16.2), (15, s19.v), (16, .int .i64 y18.2), (17, .int .i64 u20.1), (18, .int .i64 u20.2.1), (19, .int .i64 u20.2.2.1), (20, .int .i64 u20.2.2.2), (21, g41.v), (22, .int .i64 u48), (23, .pointer (some ⟨b47, 0, none⟩))]) (fun u48 g49 => Sat w0 (keys ([] : List Ent)) A [.box b47 28 [.int .i64 0, .int .i64 0, .int .i64 0], .row R3 (SV.v s19) y18.1, .box b17 28 [.int .i64 y16.1.Root, .int .i64 y16.1.Kind, .int .i64 y16.1.Turn], .row R28 (SV.v s14) y13.1, .box b11 28 [.int .i64 y4.1.Root, .int .i64 y4.1.Kind, .int .i64 y4.1.Turn], .row R28 (SV.v s10) y9.1, .row R28 (SV.v g41) u40]) (fun u48 g49 hq => ?_) (fun J cnk50 => ?_)
      · have hm := Sum.fin_l hq hm
        refine cj_seq ?_
        refine cj_seq ?_
        refine cj_reg ?_
        refine lp rfl (p_mv rfl) ?_
        refine lp rfl (p_eql rfl rfl) ?_
        refine lj_seq ?_
        obtain ⟨k54, hk54, hm⟩ := bindS hm
        have hRk54 : ∀ t, k54 = .inr t → some t = some r := fun t e => by rw [e] at hm; exact hm
        refine cj_joinK (σ := (Int × Int × Int)) (γ := Unit) (fun u52 => k54 = .inl u52) (fun u52 g53 => [(2, .bool false), (8, s10.v), (9, s14.v), (10, .int .i64 y13.2), (11, .int .i64 y15.1), (12, .int .i64 y15.2), (13, .pointer (some ⟨b17, 0, none⟩)), (14, .int .i64 y16.2), (15, s19.v), (16, .int .i64 y18.2), (17, .int .i64 u20.1), (18, .int .i64 u20.2.1), (19, .int .i64 u20.2.2.1), (20, .int .i64 u20.2.2.2), (21, g41.v), (22, .int .i64 u48), (23, .pointer (some ⟨b47, 0, none⟩))]) (fun u52 g53 => Sat w0 (keys ([] : List Ent)) A [.box b47 28 [.int .i64 u52.1, .int .i64 u52.2.1, .int .i64 u52.2.2], .row R3 (SV.v s19) y18.1, .box b17 28 [.int .i64 y16.1.Root, .int .i64 y16.1.Kind, .int .i64 y16.1.Turn], .row R28 (SV.v s14) y13.1, .row R28 (SV.v s10) y9.1, .row R28 (SV.v g41) u40]) (fun u52 g53 hq => ?_) (fun J cnk54 => ?_)
        · have hm := Sum.fin_l hq hm
          refine cj_seq ?_
          refine cj_reg ?_
          refine lp rfl (p_as rfl) ?_
          refine lj_seq ?_
          refine cj_seq ?_
          refine cj_seq ?_
          refine cj_reg ?_
          refine lp rfl (p_mv rfl) ?_
          refine lp rfl (p_eql rfl rfl) ?_
          refine lj_seq ?_
          obtain ⟨k59, hk59, hm⟩ := bindS hm
          have hRk59 : ∀ t, k59 = .inr t → some t = some r := fun t e => by rw [e] at hm; exact hm
          refine cj_joinK (σ := (List Int)) (γ := SV) (fun u56 => k59 = .inl u56) (fun u56 g57 => [(2, .bool false), (9, s14.v), (10, .int .i64 y13.2), (11, .int .i64 y15.1), (12, .int .i64 y15.2), (13, .pointer (some ⟨b17, 0, none⟩)), (14, .int .i64 y16.2), (15, s19.v), (16, .int .i64 y18.2), (17, .int .i64 u20.1), (18, .int .i64 u20.2.1), (19, .int .i64 u20.2.2.1), (20, .int .i64 u20.2.2.2), (21, g41.v), (22, .int .i64 u48), (23, .pointer (some ⟨b47, 0, none⟩)), (24, g57.v)]) (fun u56 g57 => Sat w0 (keys ([] : List Ent)) A [.box b47 28 [.int .i64 u52.1, .int .i64 u52.2.1, .int .i64 u52.2.2], .row R3 (SV.v s19) y18.1, .box b17 28 [.int .i64 y16.1.Root, .int .i64 y16.1.Kind, .int .i64 y16.1.Turn], .row R28 (SV.v s14) y13.1, .row R28 (SV.v g41) u40, .row R3 (SV.v g57) u56]) (fun u56 g57 hq => ?_) (fun J cnk59 => ?_)
          · have hm := Sum.fin_l hq hm
            refine cj_seq ?_
            refine cj_reg ?_
            refine lp rfl (p_mv rfl) ?_
            refine lp rfl (p_mv rfl) ?_
            refine lp rfl (p_eql rfl rfl) ?_
            refine lp rfl (p_mv rfl) ?_
            refine lcase (i := 106) (y13.2 == u20.1) rfl (fun hb => ?_) (fun hb => ?_)
            · have hm := ifB_t hb hm
              refine lg true rfl rfl rfl ?_
              refine lp rfl (p_mv rfl) ?_
              refine lg true rfl rfl rfl ?_
              refine lp rfl (p_mv rfl) ?_
              refine lg true rfl rfl rfl ?_
              obtain ⟨y63, hy63, hm⟩ := bindS hm
              refine r_call [] cf26 rfl rfl (ok_slices_Equal_api_Chord_api_Chord s14 y13.1 g41 u40 hy63) rfl rfl (.cons (.row 3 rfl) (.cons (.row 4 rfl) .nil)) (fun _ => rfl) rfl (fun _ => ?_)
              refine lp rfl (p_pkt rfl rfl) ?_
              refine lp rfl (p_mv rfl) ?_
              refine lcase (i := 111) y63 rfl (fun hb => ?_) (fun hb => ?_)
              · have hm := ifB_t hb hm
                refine lg true rfl rfl rfl ?_
                refine lp rfl (p_mv rfl) ?_
                refine lg true rfl rfl rfl ?_
                refine lp rfl (p_mv rfl) ?_
                refine lg true rfl rfl rfl ?_
                refine lp rfl (p_eql rfl rfl) ?_
                refine lp rfl (p_pkt rfl rfl) ?_
                refine lp rfl (p_mv rfl) ?_
                refine lcase (i := 116) (y15.2 == u20.2.1) rfl (fun hb => ?_) (fun hb => ?_)
                · have hm := ifB_t hb hm
                  refine lg true rfl rfl rfl ?_
                  refine lp rfl (p_mv rfl) ?_
                  refine lg true rfl rfl rfl ?_
                  refine lp rfl (p_mv rfl) ?_
                  refine lg true rfl rfl rfl ?_
                  refine lp rfl (p_eql rfl rfl) ?_
                  refine lp rfl (p_pkt rfl rfl) ?_
                  refine lp rfl (p_mv rfl) ?_
                  refine lcase (i := 121) (y15.1 == u48) rfl (fun hb => ?_) (fun hb => ?_)
                  · have hm := ifB_t hb hm
                    refine lg true rfl rfl rfl ?_
                    refine lp rfl (p_mv rfl) ?_
                    refine lg true rfl rfl rfl ?_
                    refine lp rfl (p_mv rfl) ?_
                    refine lg true rfl rfl rfl ?_
                    refine lp rfl (p_eql rfl rfl) ?_
                    refine lp rfl (p_pkt rfl rfl) ?_
                    refine lp rfl (p_mv rfl) ?_
                    refine lcase (i := 126) (y16.2 == u20.2.2.1) rfl (fun hb => ?_) (fun hb => ?_)
                    · have hm := ifB_t hb hm
                      refine lg true rfl rfl rfl ?_
                      refine lp rfl (p_lbw ty28 rfl (j := 2) rfl rfl) ?_
                      refine lg true rfl rfl rfl ?_
                      refine lp rfl (p_lbw ty28 rfl (j := 0) rfl rfl) ?_
                      refine lg true rfl rfl rfl ?_
                      refine lp rfl (p_eqst (by kernel_rfl) rfl rfl (eqst28 y16.1 (TChord.mk u52.1 u52.2.1 u52.2.2))) ?_
                      refine lp rfl (p_pkt rfl rfl) ?_
                      refine lp rfl (p_mv rfl) ?_
                      refine lcase (i := 131) (decide (y16.1 = (TChord.mk u52.1 u52.2.1 u52.2.2))) rfl (fun hb => ?_) (fun hb => ?_)
                      · have hm := ifB_t hb hm
                        refine lg true rfl rfl rfl ?_
                        refine lp rfl (p_mv rfl) ?_
                        refine lg true rfl rfl rfl ?_
                        refine lp rfl (p_mv rfl) ?_
                        refine lg true rfl rfl rfl ?_
                        refine lp rfl (p_eql rfl rfl) ?_
                        refine lp rfl (p_pkt rfl rfl) ?_
                        refine lp rfl (p_mv rfl) ?_
                        refine lcase (i := 136) (y18.2 == u20.2.2.2) rfl (fun hb => ?_) (fun hb => ?_)
                        · have hm := ifB_t hb hm
                          refine lg true rfl rfl rfl ?_
                          refine lp rfl (p_mv rfl) ?_
                          refine lg true rfl rfl rfl ?_
                          refine lp rfl (p_mv rfl) ?_
                          refine lg true rfl rfl rfl ?_
                          obtain ⟨y64, hy64, hm⟩ := bindS hm
                          refine r_call [] cf27 rfl rfl (ok_slices_Equal_int_int s19 y18.1 g57 u56 hy64) rfl rfl (.cons (.row 1 rfl) (.cons (.row 5 rfl) .nil)) (fun _ => rfl) rfl (fun _ => ?_)
                          refine lp rfl (p_pkt rfl rfl) ?_
                          refine lp rfl (p_mv rfl) ?_
                          refine lcase (i := 141) y64 rfl (fun hb => ?_) (fun hb => ?_)
                          · have hm := ifB_t hb hm
                            refine lg true rfl rfl rfl ?_
                            obtain ⟨y65, hy65, hm⟩ := bindS hm
                            refine r_call [] cf28 rfl rfl (ok_gleelaw2_sounded  hy65) rfl rfl .nil (fun _ => rfl) rfl (fun _ => ?_)
                            refine lp rfl (p_pkt rfl rfl) ?_
                            refine lp rfl (p_as rfl) ?_
                            refine lj_seq ?_
                            obtain rfl := Option.some.inj hm
                            exact cj_rt () [] Tryd.results3 (.tmp rfl .nil) rfl rfl
                          · have hm := ifB_f hb hm
                            refine ls true rfl rfl rfl rfl ?_
                            refine lp rfl (p_pkf rfl rfl) ?_
                            refine lp rfl (p_as rfl) ?_
                            refine lj_seq ?_
                            obtain rfl := Option.some.inj hm
                            exact cj_rt () [] Tryd.results3 (.tmp rfl .nil) rfl rfl
                        · have hm := ifB_f hb hm
                          refine ls true rfl rfl rfl rfl ?_
                          refine ls true rfl rfl rfl rfl ?_
                          refine ls true rfl rfl rfl rfl ?_
                          refine lp rfl (p_pkf rfl rfl) ?_
                          refine lp rfl (p_mv rfl) ?_
                          refine ls true rfl rfl rfl rfl ?_
                          refine lp rfl (p_pkf rfl rfl) ?_
                          refine lp rfl (p_as rfl) ?_
                          refine lj_seq ?_
                          obtain rfl := Option.some.inj hm
                          exact cj_rt () [] Tryd.results3 (.tmp rfl .nil) rfl rfl
                      · have hm := ifB_f hb hm
                        refine ls true rfl rfl rfl rfl ?_
                        refine ls true rfl rfl rfl rfl ?_
                        refine ls true rfl rfl rfl rfl ?_
                        refine lp rfl (p_pkf rfl rfl) ?_
                        refine lp rfl (p_mv rfl) ?_
                        refine ls true rfl rfl rfl rfl ?_
                        refine ls true rfl rfl rfl rfl ?_
                        refine ls true rfl rfl rfl rfl ?_
                        refine lp rfl (p_pkf rfl rfl) ?_
                        refine lp rfl (p_mv rfl) ?_
                        refine ls true rfl rfl rfl rfl ?_
                        refine lp rfl (p_pkf rfl rfl) ?_
                        refine lp rfl (p_as rfl) ?_
                        refine lj_seq ?_
                        obtain rfl := Option.some.inj hm
                        exact cj_rt () [] Tryd.results3 (.tmp rfl .nil) rfl rfl
                    · have hm := ifB_f hb hm
                      refine ls true rfl rfl rfl rfl ?_
                      refine ls true rfl rfl rfl rfl ?_
                      refine ls true rfl rfl rfl rfl ?_
                      refine lp rfl (p_pkf rfl rfl) ?_
                      refine lp rfl (p_mv rfl) ?_
                      refine ls true rfl rfl rfl rfl ?_
                      refine ls true rfl rfl rfl rfl ?_
                      refine ls true rfl rfl rfl rfl ?_
                      refine lp rfl (p_pkf rfl rfl) ?_
                      refine lp rfl (p_mv rfl) ?_
                      refine ls true rfl rfl rfl rfl ?_
                      refine ls true rfl rfl rfl rfl ?_
                      refine ls true rfl rfl rfl rfl ?_
                      refine lp rfl (p_pkf rfl rfl) ?_
                      refine lp rfl (p_mv rfl) ?_
                      refine ls true rfl rfl rfl rfl ?_
                      refine lp rfl (p_pkf rfl rfl) ?_
                      refine lp rfl (p_as rfl) ?_
                      refine lj_seq ?_
                      obtain rfl := Option.some.inj hm
                      exact cj_rt () [] Tryd.results3 (.tmp rfl .nil) rfl rfl
                  · have hm := ifB_f hb hm
                    refine ls true rfl rfl rfl rfl ?_
                    refine ls true rfl rfl rfl rfl ?_
                    refine ls true rfl rfl rfl rfl ?_
                    refine lp rfl (p_pkf rfl rfl) ?_
                    refine lp rfl (p_mv rfl) ?_
                    refine ls true rfl rfl rfl rfl ?_
                    refine ls true rfl rfl rfl rfl ?_
                    refine ls true rfl rfl rfl rfl ?_
                    refine lp rfl (p_pkf rfl rfl) ?_
                    refine lp rfl (p_mv rfl) ?_
                    refine ls true rfl rfl rfl rfl ?_
                    refine ls true rfl rfl rfl rfl ?_
                    refine ls true rfl rfl rfl rfl ?_
                    refine lp rfl (p_pkf rfl rfl) ?_
                    refine lp rfl (p_mv rfl) ?_
                    refine ls true rfl rfl rfl rfl ?_
                    refine ls true rfl rfl rfl rfl ?_
                    refine ls true rfl rfl rfl rfl ?_
                    refine lp rfl (p_pkf rfl rfl) ?_
                    refine lp rfl (p_mv rfl) ?_
                    refine ls true rfl rfl rfl rfl ?_
                    refine lp rfl (p_pkf rfl rfl) ?_
                    refine lp rfl (p_as rfl) ?_
                    refine lj_seq ?_
                    obtain rfl := Option.some.inj hm
                    exact cj_rt () [] Tryd.results3 (.tmp rfl .nil) rfl rfl
                · have hm := ifB_f hb hm
                  refine ls true rfl rfl rfl rfl ?_
                  refine ls true rfl rfl rfl rfl ?_
                  refine ls true rfl rfl rfl rfl ?_
                  refine lp rfl (p_pkf rfl rfl) ?_
                  refine lp rfl (p_mv rfl) ?_
                  refine ls true rfl rfl rfl rfl ?_
                  refine ls true rfl rfl rfl rfl ?_
                  refine ls true rfl rfl rfl rfl ?_
                  refine lp rfl (p_pkf rfl rfl) ?_
                  refine lp rfl (p_mv rfl) ?_
                  refine ls true rfl rfl rfl rfl ?_
                  refine ls true rfl rfl rfl rfl ?_
                  refine ls true rfl rfl rfl rfl ?_
                  refine lp rfl (p_pkf rfl rfl) ?_
                  refine lp rfl (p_mv rfl) ?_
                  refine ls true rfl rfl rfl rfl ?_
                  refine ls true rfl rfl rfl rfl ?_
                  refine ls true rfl rfl rfl rfl ?_
                  refine lp rfl (p_pkf rfl rfl) ?_
                  refine lp rfl (p_mv rfl) ?_
                  refine ls true rfl rfl rfl rfl ?_
                  refine ls true rfl rfl rfl rfl ?_
                  refine ls true rfl rfl rfl rfl ?_
                  refine lp rfl (p_pkf rfl rfl) ?_
                  refine lp rfl (p_mv rfl) ?_
                  refine ls true rfl rfl rfl rfl ?_
                  refine lp rfl (p_pkf rfl rfl) ?_
                  refine lp rfl (p_as rfl) ?_
                  refine lj_seq ?_
                  obtain rfl := Option.some.inj hm
                  exact cj_rt () [] Tryd.results3 (.tmp rfl .nil) rfl rfl
              · have hm := ifB_f hb hm
                refine ls true rfl rfl rfl rfl ?_
                refine ls true rfl rfl rfl rfl ?_
                refine ls true rfl rfl rfl rfl ?_
                refine lp rfl (p_pkf rfl rfl) ?_
                refine lp rfl (p_mv rfl) ?_
                refine ls true rfl rfl rfl rfl ?_
                refine ls true rfl rfl rfl rfl ?_
                refine ls true rfl rfl rfl rfl ?_
                refine lp rfl (p_pkf rfl rfl) ?_
                refine lp rfl (p_mv rfl) ?_
                refine ls true rfl rfl rfl rfl ?_
                refine ls true rfl rfl rfl rfl ?_
                refine ls true rfl rfl rfl rfl ?_
                refine lp rfl (p_pkf rfl rfl) ?_
                refine lp rfl (p_mv rfl) ?_
                refine ls true rfl rfl rfl rfl ?_
                refine ls true rfl rfl rfl rfl ?_
                refine ls true rfl rfl rfl rfl ?_
                refine lp rfl (p_pkf rfl rfl) ?_
                refine lp rfl (p_mv rfl) ?_
                refine ls true rfl rfl rfl rfl ?_
                refine ls true rfl rfl rfl rfl ?_
                refine ls true rfl rfl rfl rfl ?_
                refine lp rfl (p_pkf rfl rfl) ?_
                refine lp rfl (p_mv rfl) ?_
                refine ls true rfl rfl rfl rfl ?_
                refine ls true rfl rfl rfl rfl ?_
                refine ls true rfl rfl rfl rfl ?_
                refine lp rfl (p_pkf rfl rfl) ?_
                refine lp rfl (p_mv rfl) ?_
                refine ls true rfl rfl rfl rfl ?_
                refine lp rfl (p_pkf rfl rfl) ?_
                refine lp rfl (p_as rfl) ?_
                refine lj_seq ?_
                obtain rfl := Option.some.inj hm
                exact cj_rt () [] Tryd.results3 (.tmp rfl .nil) rfl rfl
            · have hm := ifB_f hb hm
              refine ls true rfl rfl rfl rfl ?_
              refine ls true rfl rfl rfl rfl ?_
              refine ls true rfl rfl rfl rfl ?_
              refine lp rfl (p_pkf rfl rfl) ?_
              refine lp rfl (p_mv rfl) ?_
              refine ls true rfl rfl rfl rfl ?_
              refine ls true rfl rfl rfl rfl ?_
              refine ls true rfl rfl rfl rfl ?_
              refine lp rfl (p_pkf rfl rfl) ?_
              refine lp rfl (p_mv rfl) ?_
              refine ls true rfl rfl rfl rfl ?_
              refine ls true rfl rfl rfl rfl ?_
              refine ls true rfl rfl rfl rfl ?_
              refine lp rfl (p_pkf rfl rfl) ?_
              refine lp rfl (p_mv rfl) ?_
              refine ls true rfl rfl rfl rfl ?_
              refine ls true rfl rfl rfl rfl ?_
              refine ls true rfl rfl rfl rfl ?_
              refine lp rfl (p_pkf rfl rfl) ?_
              refine lp rfl (p_mv rfl) ?_
              refine ls true rfl rfl rfl rfl ?_
              refine ls true rfl rfl rfl rfl ?_
              refine ls true rfl rfl rfl rfl ?_
              refine lp rfl (p_pkf rfl rfl) ?_
              refine lp rfl (p_mv rfl) ?_
              refine ls true rfl rfl rfl rfl ?_
              refine ls true rfl rfl rfl rfl ?_
              refine ls true rfl rfl rfl rfl ?_
              refine lp rfl (p_pkf rfl rfl) ?_
              refine lp rfl (p_mv rfl) ?_
              refine ls true rfl rfl rfl rfl ?_
              refine ls true rfl rfl rfl rfl ?_
              refine ls true rfl rfl rfl rfl ?_
              refine lp rfl (p_pkf rfl rfl) ?_
              refine lp rfl (p_mv rfl) ?_
              refine ls true rfl rfl rfl rfl ?_
              refine lp rfl (p_pkf rfl rfl) ?_
              refine lp rfl (p_as rfl) ?_
              refine lj_seq ?_
              obtain rfl := Option.some.inj hm
              exact cj_rt () [] Tryd.results3 (.tmp rfl .nil) rfl rfl
          · have hm := hk59
            refine cj_if (b := u20.2.2.2 == 0) rfl (fun hb => ?_) (fun hb => ?_)
            · have hm := ifB_t hb hm
              refine cj_reg ?_
              refine lp rfl (p_mv rfl) ?_
              obtain ⟨y60, hy60, hm⟩ := bindS hm
              refine r_call [] cf25 rfl rfl (ok_gleeref2_KeysOf s10 y9.1 hy60) rfl rfl (.cons (.row 4 rfl) .nil) (fun _ => rfl) rfl (fun s61 => ?_)
              refine lp rfl (p_as rfl) ?_
              refine lj_nil ?_
              exact cnk59 _ _ y60 s61 (Option.some.inj hm).symm ⟨rfl, rfl, rfl, rfl, rfl, rfl, rfl, rfl, rfl, rfl, rfl, rfl, rfl, rfl, rfl, rfl, rfl, trivial⟩ (fun _ h => h.picks [1, 1, 1, 1, 2, 0] rfl)
            · have hm := ifB_f hb hm
              refine cj_skip ?_
              refine nj_nil R3 ?_
              exact cnk59 _ _ [] nilS (Option.some.inj hm).symm ⟨rfl, rfl, rfl, rfl, rfl, rfl, rfl, rfl, rfl, rfl, rfl, rfl, rfl, rfl, rfl, rfl, rfl, trivial⟩ (fun _ h => h.picks [1, 1, 1, 1, 2, 0] rfl)
        · have hm := hk54
          refine cj_if (b := u20.2.2.1 == 0) rfl (fun hb => ?_) (fun hb => ?_)
          · have hm := ifB_t hb hm
            refine cj_reg ?_
            refine lp rfl (p_lbw ty28 rfl (j := 4) rfl rfl) ?_
            refine lp rfl (p_mv rfl) ?_
            obtain ⟨y55, hy55, hm⟩ := bindS hm
            refine r_call [] cf24 rfl rfl (ok_gleeref2_ShiftedChord y4.1 y7.1 hy55) rfl rfl .nil (fun _ => rfl) rfl (fun _ => ?_)
            refine r_sb (vs := [.int .i64 y55.Root, .int .i64 y55.Kind, .int .i64 y55.Turn]) (j := 0) ty28 rfl rfl rfl rfl rfl rfl rfl ?_
            refine lj_nil ?_
            exact cnk54 _ _ (y55.Root, y55.Kind, y55.Turn) () (Option.some.inj hm).symm ⟨rfl, rfl, rfl, rfl, rfl, rfl, rfl, rfl, rfl, rfl, rfl, rfl, rfl, rfl, rfl, rfl, rfl, trivial⟩ (fun _ h => h.picks [0, 0, 0, 0, 1, 1] rfl)
          · have hm := ifB_f hb hm
            refine cj_skip ?_
            exact cnk54 _ _ (0, 0, 0) () (Option.some.inj hm).symm ⟨rfl, rfl, rfl, rfl, rfl, rfl, rfl, rfl, rfl, rfl, rfl, rfl, rfl, rfl, rfl, rfl, rfl, trivial⟩ (fun _ h => h.picks [0, 0, 0, 0, 1, 1] rfl)
      · have hm := hk50
        refine cj_if (b := u20.2.1 == 0) rfl (fun hb => ?_) (fun hb => ?_)
        · have hm := ifB_t hb hm
          refine cj_reg ?_
          refine lp rfl (p_lbw ty28 rfl (j := 5) rfl rfl) ?_
          refine lp rfl (p_lbw ty28 rfl (j := 4) rfl rfl) ?_
          obtain ⟨y51, hy51, hm⟩ := bindS hm
          refine r_call [] cf23 rfl rfl (ok_gleeref2_SharedOf y4.1 y5.1 hy51) rfl rfl .nil (fun _ => rfl) rfl (fun _ => ?_)
          refine lp rfl (p_as rfl) ?_
          refine lj_nil ?_
          exact cnk50 _ _ y51 () (Option.some.inj hm).symm ⟨rfl, rfl, rfl, rfl, rfl, rfl, rfl, rfl, rfl, rfl, rfl, rfl, rfl, rfl, rfl, rfl, rfl, rfl, rfl, trivial⟩ (fun _ h => h.picks [0, 0, 0, 0, 1, 1, 1] rfl)
        · have hm := ifB_f hb hm
          refine cj_skip ?_
          exact cnk50 _ _ 0 () (Option.some.inj hm).symm ⟨rfl, rfl, rfl, rfl, rfl, rfl, rfl, rfl, rfl, rfl, rfl, rfl, rfl, rfl, rfl, rfl, rfl, rfl, rfl, trivial⟩ (fun _ h => h.picks [0, 0, 0, 0, 1, 1, 1] rfl)
    · have hm := hk43
      refine cj_if (b := u20.1 == 0) rfl (fun hb => ?_) (fun hb => ?_)
      · have hm := ifB_t hb hm
        refine cj_reg ?_
        refine lp rfl (p_mv rfl) ?_
        obtain ⟨y44, hy44, hm⟩ := bindS hm
        refine r_call [] cf22 rfl rfl (ok_gleeref2_ChordsOf s3 y2.1 hy44) rfl rfl (.cons (.row 6 rfl) .nil) (fun _ => rfl) rfl (fun s45 => ?_)
        refine lp rfl (p_as rfl) ?_
        refine lj_nil ?_
        exact cnk43 _ _ y44 s45 (Option.some.inj hm).symm ⟨rfl, rfl, rfl, rfl, rfl, rfl, rfl, rfl, rfl, rfl, rfl, rfl, rfl, rfl, rfl, rfl, rfl, rfl, trivial⟩ (fun _ h => h.picks [1, 1, 1, 1, 1, 1, 0] rfl)
      · have hm := ifB_f hb hm
        refine cj_skip ?_
        refine nj_nil R28 ?_
        exact cnk43 _ _ [] nilS (Option.some.inj hm).symm ⟨rfl, rfl, rfl, rfl, rfl, rfl, rfl, rfl, rfl, rfl, rfl, rfl, rfl, rfl, rfl, rfl, rfl, rfl, trivial⟩ (fun _ h => h.picks [1, 1, 1, 1, 1, 1, 0] rfl)
  · have hm := hk22
    obtain ⟨y23, hy23, hm⟩ := bindS hm
    obtain ⟨y24, hy24, hm⟩ := bindS hm
    obtain ⟨y25, hy25, hm⟩ := bindS hm
    obtain ⟨y27, hy27, hm⟩ := bindS hm
    obtain ⟨y28, hy28, hm⟩ := bindS hm
    refine cj_anyT [0, 2, 4, 8, 10, 11, 12, 13, 14, 19, 21, 22, 23, 24] [] (Sat w0 (keys ([] : List Ent)) A [.row R3 (SV.v s19) y18.1, .box b17 28 [.int .i64 y16.1.Root, .int .i64 y16.1.Kind, .int .i64 y16.1.Turn], .row R28 (SV.v s14) y13.1, .box b12 28 [.int .i64 y5.1.Root, .int .i64 y5.1.Kind, .int .i64 y5.1.Turn], .box b11 28 [.int .i64 y4.1.Root, .int .i64 y4.1.Kind, .int .i64 y4.1.Turn], .row R28 (SV.v s10) y9.1, .box b1 25 [s0_.v, .int .i64 y9.2], .row R3 (SV.v s6) [0, 1, 7, (-5), 127, (-127), 128, (-128)], .row R3 (SV.v s3) y2.1, .ro (RdS R3 (SV.v s0_) a0)]) (Sat w0 (keys ([] : List Ent)) A [.row R3 (SV.v s19) y18.1, .box b17 28 [.int .i64 y16.1.Root, .int .i64 y16.1.Kind, .int .i64 y16.1.Turn], .row R28 (SV.v s14) y13.1, .box b12 28 [.int .i64 y5.1.Root, .int .i64 y5.1.Kind, .int .i64 y5.1.Turn], .box b11 28 [.int .i64 y4.1.Root, .int .i64 y4.1.Kind, .int .i64 y4.1.Turn], .row R28 (SV.v s10) y9.1, .box b1 25 [s0_.v, .int .i64 y9.2], .row R3 (SV.v s6) [0, 1, 7, (-5), 127, (-127), 128, (-128)], .row R3 (SV.v s3) y2.1, .ro (RdS R3 (SV.v s0_) a0)]) (by kernel_rfl) ?_
    refine at_take2 0 rfl (by kernel_rfl) (by kernel_rfl) (by kernel_rfl) (fun _ h => h.picks [0, 0, 0, 0, 0, 0, 0, 0, 0, 0] rfl) rfl rfl (p_mv rfl) (fun _ h => h.picks [0, 0, 0, 0, 0, 0, 0, 0, 0, 0] rfl) ?_
    refine at_take2 2 rfl (by kernel_rfl) (by kernel_rfl) (by kernel_rfl) (fun _ h => h.picks [0, 0, 0, 0, 0, 0, 0, 0, 0, 0] rfl) rfl rfl (p_lbw ty28 rfl (j := 4) rfl rfl) (fun _ h => h.picks [0, 0, 0, 0, 0, 0, 0, 0, 0, 0] rfl) ?_
    refine at_take2 4 rfl (by kernel_rfl) (by kernel_rfl) (by kernel_rfl) (fun _ h => h.picks [0, 0, 0, 0, 0, 0, 0, 0, 0, 0] rfl) rfl rfl (p_lbw ty28 rfl (j := 3) rfl rfl) (fun _ h => h.picks [0, 0, 0, 0, 0, 0, 0, 0, 0, 0] rfl) ?_
    refine at_take2 8 rfl (by kernel_rfl) (by kernel_rfl) (by kernel_rfl) (fun _ h => h.picks [0, 0, 0, 0, 0, 0, 0, 0, 0, 0] rfl) rfl rfl (p_lbw ty28 rfl (j := 4) rfl rfl) (fun _ h => h.picks [0, 0, 0, 0, 0, 0, 0, 0, 0, 0] rfl) ?_
    refine at_take2 10 rfl (by kernel_rfl) (by kernel_rfl) (by kernel_rfl) (fun _ h => h.picks [0, 0, 0, 0, 0, 0, 0, 0, 0, 0] rfl) rfl rfl (p_mv rfl) (fun _ h => h.picks [0, 0, 0, 0, 0, 0, 0, 0, 0, 0] rfl) ?_
    refine at_take2 11 rfl (by kernel_rfl) (by kernel_rfl) (by kernel_rfl) (fun _ h => h.picks [0, 0, 0, 0, 0, 0, 0, 0, 0, 0] rfl) rfl rfl (p_lss rfl rfl) (fun _ h => h.picks [0, 0, 0, 0, 0, 0, 0, 0, 0, 0] rfl) ?_
    refine at_take2 19 rfl (by kernel_rfl) (by kernel_rfl) (by kernel_rfl) (fun _ h => h.picks [0, 0, 0, 0, 0, 0, 0, 0, 0, 0] rfl) rfl rfl (p_mv rfl) (fun _ h => h.picks [0, 0, 0, 0, 0, 0, 0, 0, 0, 0] rfl) ?_
    refine at_each (rs := [1]) (by kernel_rfl) (by decide) ?_
    refine (.cons rfl (fun I cnI => ?_) .nil)
    · refine r_call [] cf17 rfl rfl (ok_gleeref2_NotesFault s3 y2.1 12 hy23) rfl rfl (.cons (.row 8 rfl) .nil) (fun _ => rfl) rfl (fun _ => ?_)
      refine lj_nil ?_
      refine cnI _ _ (sof1 rfl rfl (fun _ h => h.picks [0, 0, 0, 0, 0, 0, 0, 0, 0, 0] rfl)) ?_
      refine at_each (rs := [3]) (by kernel_rfl) (by decide) ?_
      refine (.cons rfl (fun I cnI => ?_) .nil)
      · refine r_call [] cf19 rfl rfl (ok_gleeref2_ChordFault y4.1 hy24) rfl rfl .nil (fun _ => rfl) rfl (fun _ => ?_)
        refine lj_nil ?_
        refine cnI _ _ (sof1 rfl rfl (fun _ h => h.picks [0, 0, 0, 0, 0, 0, 0, 0, 0, 0] rfl)) ?_
        refine at_each (rs := [5]) (by kernel_rfl) (by decide) ?_
        refine (.cons rfl (fun I cnI => ?_) .nil)
        · refine r_call [] cf19 rfl rfl (ok_gleeref2_ChordFault y5.1 hy25) rfl rfl .nil (fun _ => rfl) rfl (fun _ => ?_)
          refine lj_nil ?_
          refine cnI _ _ (sof1 rfl rfl (fun _ h => h.picks [0, 0, 0, 0, 0, 0, 0, 0, 0, 0] rfl)) ?_
          refine at_each (rs := [6]) (by kernel_rfl) (by decide) ?_
          refine (.cons rfl (fun I cnI => ?_) .nil)
          · refine r_bs R34 [y24, y25] rfl rfl rfl (fun _ => by kernel_rfl) rfl (fun s37 => ?_)
            refine lj_nil ?_
            refine cnI _ _ (sof1 rfl rfl (fun _ h => h.picks [1, 1, 1, 1, 1, 1, 1, 1, 1, 1] rfl)) ?_
            refine at_each (rs := [7]) (by kernel_rfl) (by decide) ?_
            refine (.cons rfl (fun I cnI => ?_) .nil)
            · refine r_call [] cf18 rfl rfl (ok_gleelaw2_errs s37 [y24, y25] hy27) rfl rfl (.cons (.row 0 rfl) .nil) (fun _ => rfl) rfl (fun _ => ?_)
              refine lj_nil ?_
              refine cnI _ _ (sof1 rfl rfl (fun _ h => h.picks [1, 1, 1, 1, 1, 1, 1, 1, 1, 1] rfl)) ?_
              refine at_each (rs := [9]) (by kernel_rfl) (by decide) ?_
              refine (.cons rfl (fun I cnI => ?_) .nil)
              · refine r_call [] cf19 rfl rfl (ok_gleeref2_ChordFault y4.1 hy28) rfl rfl .nil (fun _ => rfl) rfl (fun _ => ?_)
                refine lj_nil ?_
                refine cnI _ _ (sof1 rfl rfl (fun _ h => h.picks [1, 1, 1, 1, 1, 1, 1, 1, 1, 1] rfl)) ?_
                refine at_take2 12 rfl (by kernel_rfl) (by kernel_rfl) (by kernel_rfl) (fun _ h => h.picks [0, 0, 0, 0, 0, 0, 0, 0, 0, 0] rfl) rfl rfl (p_mv rfl) (fun _ h => h.picks [1, 1, 1, 1, 1, 1, 1, 1, 1, 1] rfl) ?_
                refine at_case (i := 75) (decide (y7.1 < (-127))) rfl (fun hb => ?_) (fun hb => ?_)
                · have hm := ifB_t hb hm
                  obtain ⟨y29, hy29, hm⟩ := bindS hm
                  obtain ⟨y31, hy31, hm⟩ := bindS hm
                  obtain ⟨y32, hy32, hm⟩ := bindS hm
                  refine at_skip 13 rfl rfl rfl rfl (by kernel_rfl) (by kernel_rfl) (by kernel_rfl) rfl rfl ?_
                  refine at_skip 14 rfl rfl rfl rfl (by kernel_rfl) (by kernel_rfl) (by kernel_rfl) rfl rfl ?_
                  refine at_each (rs := [15]) (by kernel_rfl) (by decide) ?_
                  refine (.cons rfl (fun I cnI => ?_) .nil)
                  · refine lp rfl (p_pkt rfl rfl) ?_
                    refine lj_nil ?_
                    refine cnI _ _ (sof1 rfl rfl (fun _ h => h.picks [1, 1, 1, 1, 1, 1, 1, 1, 1, 1] rfl)) ?_
                    refine at_each (rs := [16]) (by kernel_rfl) (by decide) ?_
                    refine (.cons rfl (fun I cnI => ?_) .nil)
                    · refine r_call [] cf20 rfl rfl (ok_gleelaw2_when true 1 hy29) rfl rfl .nil (fun _ => rfl) rfl (fun _ => ?_)
                      refine lj_nil ?_
                      refine cnI _ _ (sof1 rfl rfl (fun _ h => h.picks [1, 1, 1, 1, 1, 1, 1, 1, 1, 1] rfl)) ?_
                      refine at_each (rs := [17]) (by kernel_rfl) (by decide) ?_
                      refine (.cons rfl (fun I cnI => ?_) .nil)
                      · refine r_bs R34 [y28, y29] rfl rfl rfl (fun _ => by kernel_rfl) rfl (fun s38 => ?_)
                        refine lj_nil ?_
                        refine cnI _ _ (sof1 rfl rfl (fun _ h => h.picks [2, 2, 2, 2, 2, 2, 2, 2, 2, 2] rfl)) ?_
                        refine at_each (rs := [18]) (by kernel_rfl) (by decide) ?_
                        refine (.cons rfl (fun I cnI => ?_) .nil)
                        · refine r_call [] cf18 rfl rfl (ok_gleelaw2_errs s38 [y28, y29] hy31) rfl rfl (.cons (.row 0 rfl) .nil) (fun _ => rfl) rfl (fun _ => ?_)
                          refine lj_nil ?_
                          refine cnI _ _ (sof1 rfl rfl (fun _ h => h.picks [2, 2, 2, 2, 2, 2, 2, 2, 2, 2] rfl)) ?_
                          refine at_each (rs := [20]) (by kernel_rfl) (by decide) ?_
                          refine (.cons rfl (fun I cnI => ?_) .nil)
                          · refine r_call [] cf21 rfl rfl (ok_gleeref2_ChordsFault s10 y9.1 144 hy32) rfl rfl (.cons (.row 7 rfl) .nil) (fun _ => rfl) rfl (fun _ => ?_)
                            refine lj_nil ?_
                            refine cnI _ _ (sof1 rfl rfl (fun _ h => h.picks [2, 2, 2, 2, 2, 2, 2, 2, 2, 2] rfl)) ?_
                            refine at_take2 21 rfl (by kernel_rfl) (by kernel_rfl) (by kernel_rfl) (fun _ h => h.picks [0, 0, 0, 0, 0, 0, 0, 0, 0, 0] rfl) rfl rfl (p_as rfl) (fun _ h => h.picks [2, 2, 2, 2, 2, 2, 2, 2, 2, 2] rfl) ?_
                            refine at_take2 22 rfl (by kernel_rfl) (by kernel_rfl) (by kernel_rfl) (fun _ h => h.picks [0, 0, 0, 0, 0, 0, 0, 0, 0, 0] rfl) rfl rfl (p_as rfl) (fun _ h => h.picks [2, 2, 2, 2, 2, 2, 2, 2, 2, 2] rfl) ?_
                            refine at_take2 23 rfl (by kernel_rfl) (by kernel_rfl) (by kernel_rfl) (fun _ h => h.picks [0, 0, 0, 0, 0, 0, 0, 0, 0, 0] rfl) rfl rfl (p_as rfl) (fun _ h => h.picks [2, 2, 2, 2, 2, 2, 2, 2, 2, 2] rfl) ?_
                            refine at_take2 24 rfl (by kernel_rfl) (by kernel_rfl) (by kernel_rfl) (fun _ h => h.picks [0, 0, 0, 0, 0, 0, 0, 0, 0, 0] rfl) rfl rfl (p_as rfl) (fun _ h => h.picks [2, 2, 2, 2, 2, 2, 2, 2, 2, 2] rfl) ?_
                            refine at_done (by kernel_rfl) ?_
                            exact cnk22 _ _ (y23, y27, y31, y32) () (Option.some.inj hm).symm ⟨rfl, rfl, rfl, rfl, rfl, rfl, rfl, rfl, rfl, rfl, rfl, rfl, rfl, rfl, rfl, rfl, rfl, rfl, trivial⟩ (fun _ h => h.picks [2, 2, 2, 2, 2, 2, 4] rfl)
                · have hm := ifB_f hb hm
                  obtain ⟨y33, hy33, hm⟩ := bindS hm
                  obtain ⟨y35, hy35, hm⟩ := bindS hm
                  obtain ⟨y36, hy36, hm⟩ := bindS hm
                  refine at_take2g 13 rfl rfl rfl rfl (by kernel_rfl) (by kernel_rfl) (by kernel_rfl) (fun _ h => h.picks [0, 0, 0, 0, 0, 0, 0, 0, 0, 0] rfl) rfl rfl (p_mv rfl) (fun _ h => h.picks [1, 1, 1, 1, 1, 1, 1, 1, 1, 1] rfl) ?_
                  refine at_take2g 14 rfl rfl rfl rfl (by kernel_rfl) (by kernel_rfl) (by kernel_rfl) (fun _ h => h.picks [0, 0, 0, 0, 0, 0, 0, 0, 0, 0] rfl) rfl rfl (p_gtr rfl rfl) (fun _ h => h.picks [1, 1, 1, 1, 1, 1, 1, 1, 1, 1] rfl) ?_
                  refine at_each (rs := [15]) (by kernel_rfl) (by decide) ?_
                  refine (.cons rfl (fun I cnI => ?_) .nil)
                  · refine lp rfl (p_pkf rfl rfl) ?_
                    refine lj_nil ?_
                    refine cnI _ _ (sof1 rfl rfl (fun _ h => h.picks [1, 1, 1, 1, 1, 1, 1, 1, 1, 1] rfl)) ?_
                    refine at_each (rs := [16]) (by kernel_rfl) (by decide) ?_
                    refine (.cons rfl (fun I cnI => ?_) .nil)
                    · refine r_call [] cf20 rfl rfl (ok_gleelaw2_when (decide (y7.1 > 127)) 1 hy33) rfl rfl .nil (fun _ => rfl) rfl (fun _ => ?_)
                      refine lj_nil ?_
                      refine cnI _ _ (sof1 rfl rfl (fun _ h => h.picks [1, 1, 1, 1, 1, 1, 1, 1, 1, 1] rfl)) ?_
                      refine at_each (rs := [17]) (by kernel_rfl) (by decide) ?_
                      refine (.cons rfl (fun I cnI => ?_) .nil)
                      · refine r_bs R34 [y28, y33] rfl rfl rfl (fun _ => by kernel_rfl) rfl (fun s39 => ?_)
                        refine lj_nil ?_
                        refine cnI _ _ (sof1 rfl rfl (fun _ h => h.picks [2, 2, 2, 2, 2, 2, 2, 2, 2, 2] rfl)) ?_
                        refine at_each (rs := [18]) (by kernel_rfl) (by decide) ?_
                        refine (.cons rfl (fun I cnI => ?_) .nil)
                        · refine r_call [] cf18 rfl rfl (ok_gleelaw2_errs s39 [y28, y33] hy35) rfl rfl (.cons (.row 0 rfl) .nil) (fun _ => rfl) rfl (fun _ => ?_)
                          refine lj_nil ?_
                          refine cnI _ _ (sof1 rfl rfl (fun _ h => h.picks [2, 2, 2, 2, 2, 2, 2, 2, 2, 2] rfl)) ?_
                          refine at_each (rs := [20]) (by kernel_rfl) (by decide) ?_
                          refine (.cons rfl (fun I cnI => ?_) .nil)
                          · refine r_call [] cf21 rfl rfl (ok_gleeref2_ChordsFault s10 y9.1 144 hy36) rfl rfl (.cons (.row 7 rfl) .nil) (fun _ => rfl) rfl (fun _ => ?_)
                            refine lj_nil ?_
                            refine cnI _ _ (sof1 rfl rfl (fun _ h => h.picks [2, 2, 2, 2, 2, 2, 2, 2, 2, 2] rfl)) ?_
                            refine at_take2 21 rfl (by kernel_rfl) (by kernel_rfl) (by kernel_rfl) (fun _ h => h.picks [0, 0, 0, 0, 0, 0, 0, 0, 0, 0] rfl) rfl rfl (p_as rfl) (fun _ h => h.picks [2, 2, 2, 2, 2, 2, 2, 2, 2, 2] rfl) ?_
                            refine at_take2 22 rfl (by kernel_rfl) (by kernel_rfl) (by kernel_rfl) (fun _ h => h.picks [0, 0, 0, 0, 0, 0, 0, 0, 0, 0] rfl) rfl rfl (p_as rfl) (fun _ h => h.picks [2, 2, 2, 2, 2, 2, 2, 2, 2, 2] rfl) ?_
                            refine at_take2 23 rfl (by kernel_rfl) (by kernel_rfl) (by kernel_rfl) (fun _ h => h.picks [0, 0, 0, 0, 0, 0, 0, 0, 0, 0] rfl) rfl rfl (p_as rfl) (fun _ h => h.picks [2, 2, 2, 2, 2, 2, 2, 2, 2, 2] rfl) ?_
                            refine at_take2 24 rfl (by kernel_rfl) (by kernel_rfl) (by kernel_rfl) (fun _ h => h.picks [0, 0, 0, 0, 0, 0, 0, 0, 0, 0] rfl) rfl rfl (p_as rfl) (fun _ h => h.picks [2, 2, 2, 2, 2, 2, 2, 2, 2, 2] rfl) ?_
                            refine at_done (by kernel_rfl) ?_
                            exact cnk22 _ _ (y23, y27, y35, y36) () (Option.some.inj hm).symm ⟨rfl, rfl, rfl, rfl, rfl, rfl, rfl, rfl, rfl, rfl, rfl, rfl, rfl, rfl, rfl, rfl, rfl, rfl, trivial⟩ (fun _ h => h.picks [2, 2, 2, 2, 2, 2, 4] rfl)
end Go.Proofs.YtndkkkgkmeijlaaDoor
