/- The walks. Written by program. -/
import Derived.Test.YtnhgkhhceokibaaGreatDoorW2
namespace Go.Proofs.YtnhgkhhceokibaaGreatDoor
open Go Go.J Go.G
set_option maxRecDepth 100000
set_option linter.unusedVariables false
set_option linter.unusedSimpArgs false
theorem ok_slices_Equal_string_string (s0_ : SV) (a0 : (List ByteArray)) (s1_ : SV) (a1 : (List ByteArray)) {r : Bool} (hm : m_slices_Equal_string_string a0 a1 = some r) :
  Ctr Tryz.prog 18 [s0_.v, s1_.v].toArray ([] : List Ent) [RdS R9 (SV.v s0_) a0, RdS R9 (SV.v s1_) a1] (X := Unit) (fun _ => .bool r) (fun _ => []) := by
 unfold m_slices_Equal_string_string at hm
 refine ctr_mk (vs := [(0, s0_.v), (1, s1_.v)]) Tryz.func18 rfl Tryz.ntmps18 rfl ⟨rfl, rfl, trivial⟩ (fun w0 A => ?_)
 refine cj_seq ?_
 refine cj_reg ?_
 refine lp rfl (p_as rfl) ?_
 refine lj_seq ?_
 refine cj_seq ?_
 refine cj_seq ?_
 refine cj_reg ?_
 refine lp rfl (p_mv rfl) ?_
 refine lp rfl (p_len Tryz.underlying34 rfl (.ro 0 rfl)) ?_
 refine lp rfl (p_mv rfl) ?_
 refine lp rfl (p_len Tryz.underlying34 rfl (.ro 1 rfl)) ?_
 refine lp rfl (p_neq rfl rfl) ?_
 refine lj_seq ?_
 refine cj_if (b := (a0.length : Int) != (a1.length : Int)) rfl (fun hb => ?_) (fun hb => ?_)
 ·have hm := ifB_t hb hm
  refine cj_seq ?_
  refine cj_reg ?_
  refine lp rfl (p_as rfl) ?_
  refine lj_seq ?_
  obtain rfl := Option.some.inj hm
  exact cj_rt () [] Tryz.results18 (.tmp rfl .nil) rfl rfl
 ·have hm := ifB_f hb hm
  refine cj_skip ?_
  refine nj_seq ?_
  refine cj_seq ?_
  refine cj_seq ?_
  refine cj_reg ?_
  refine lp rfl (p_mv rfl) ?_
  refine lp rfl (p_len Tryz.underlying34 rfl (.ro 0 rfl)) ?_
  refine lp rfl (p_mv rfl) ?_
  refine lj_seq ?_
  obtain ⟨f7, hf7, hm⟩ := bindS hm
  refine cj_range (γ := Unit) (m := (a0.length : Int)) hf7 () (fun u4 g5 => [(0, s0_.v), (1, s1_.v), (4, .bool false)]) (fun u4 g5 => Sat w0 (keys ([] : List Ent)) A [.ro (RdS R9 (SV.v s0_) a0), .ro (RdS R9 (SV.v s1_) a1)]) ⟨rfl, rfl, rfl, rfl, rfl, trivial⟩ (fun _ h => h.picks [0, 0] rfl) (nat_lt _) (fun _ h => (FactAt.get (F := RdS R9 (SV.v s0_) a0) (.ro 0 rfl) h).1) (fun _ _ => ⟨rfl, rfl, rfl, rfl⟩) ⟨rfl, rfl, rfl, rfl, rfl⟩ rfl rfl rfl (fun u4 g5 e => ?_) (fun aftk6 i1 x2 u4 g5 k6 hx3 hs J hJk6 hBk6 hX I cnk6 => ?_)
  ·have hm := Flow.fin_b e hm
   refine nj_seq ?_
   refine cj_seq ?_
   refine cj_reg ?_
   refine lp rfl (p_as rfl) ?_
   refine lj_seq ?_
   obtain rfl := Option.some.inj hm
   exact cj_rt () [] Tryz.results18 (.tmp rfl .nil) rfl rfl
  ·have hRk6 : ∀ t, k6 = .ret t → some t = some r := fun t e => by rw [hX t e] at hm; exact hm
   have hm := hs
   refine cj_seq ?_
   refine cj_reg ?_
   refine lp rfl (p_mv rfl) ?_
   refine lp rfl (p_as rfl) ?_
   refine lj_seq ?_
   refine cj_seq ?_
   refine cj_quiet (by kernel_rfl) (by kernel_rfl) ?_
   refine q_p rfl (p_mv rfl) ?_
   refine q_p rfl (p_mv rfl) ?_
   refine q_p rfl (p_idx Tryz.underlying34 ty9 rfl rfl (.ro 0 rfl) (getI_nat.trans hx3)) ?_
   refine q_p rfl (p_lde (o := 0) ty9 rfl rfl (.ro 0 rfl) hx3 rfl) ?_
   refine q_p rfl (p_mv rfl) ?_
   refine q_p rfl (p_mv rfl) ?_
   obtain ⟨e8, he8, hm⟩ := bindS hm
   refine q_p rfl (p_idx Tryz.underlying34 ty9 rfl rfl (.ro 1 rfl) he8) ?_
   refine q_p rfl (p_lde (o := 0) ty9 rfl rfl (.ro 1 rfl) (getI_spec he8).2 rfl) ?_
   refine q_p rfl (p_nes rfl rfl) ?_
   refine q_nil ?_
   refine nj_seq ?_
   refine cj_if (b := !(x2.toList == e8.toList)) rfl (fun hb => ?_) (fun hb => ?_)
   ·have hm := ifB_t hb hm
    refine cj_seq ?_
    refine cj_reg ?_
    refine lp rfl (p_as rfl) ?_
    refine lj_seq ?_
    have hm := hRk6 _ (Option.some.inj hm).symm
    obtain rfl := Option.some.inj hm
    exact cj_rt () [] Tryz.results18 (.tmp rfl .nil) rfl rfl
   ·have hm := ifB_f hb hm
    refine cj_skip ?_
    refine nj_blk ?_
    exact cnk6 _ _ () () (hJk6 _ (Option.some.inj hm).symm) ⟨rfl, rfl, rfl, rfl, rfl, trivial⟩ (fun _ h => h.picks [0, 0] rfl)
theorem ok_gleelaw2_clubbed  {r : Bool} (hm : m_gleelaw2_clubbed  = some r) :
  Ctr Tryz.prog 19 [].toArray ([] : List Ent) [] (X := Unit) (fun _ => .bool r) (fun _ => []) := by
 unfold m_gleelaw2_clubbed at hm
 refine ctr_mk (vs := []) Tryz.func19 rfl Tryz.ntmps19 rfl trivial (fun w0 A => ?_)
 refine cj_seq ?_
 refine cj_reg ?_
 refine lp rfl (p_as rfl) ?_
 refine lj_seq ?_
 refine cj_seq ?_
 refine cj_reg ?_
 refine lp rfl (p_bld [.string (ByteArray.mk [97].toArray), .int .i64 1, .int .i64 0, .int .i64 1, .string (ByteArray.mk [97, 110, 110].toArray), .string ByteArray.empty, .int .i64 0, .bool false, .string ByteArray.empty, .int .i64 0] rfl (fun _ => by kernel_rfl)) ?_
 refine r_bs R53 [(TAct.mk (ByteArray.mk [97].toArray) 1 0 1 (ByteArray.mk [97, 110, 110].toArray) ByteArray.empty 0 false ByteArray.empty 0)] rfl rfl rfl (fun _ => by kernel_rfl) rfl (fun s1 => ?_)
 obtain ⟨y2, hy2, hm⟩ := bindS hm
 refine r_call [] cf9 rfl rfl (ok_club_Members s1 [(TAct.mk (ByteArray.mk [97].toArray) 1 0 1 (ByteArray.mk [97, 110, 110].toArray) ByteArray.empty 0 false ByteArray.empty 0)] 0 hy2) rfl rfl (.cons (.row 0 rfl) .nil) (fun _ => rfl) rfl (fun s3 => ?_)
 refine lp rfl (p_mv rfl) ?_
 refine lp rfl (p_ext rfl rfl) ?_
 refine lp rfl (p_ext rfl rfl) ?_
 refine lp rfl (p_as rfl) ?_
 refine lp rfl (p_as rfl) ?_
 refine lj_seq ?_
 refine cj_seq ?_
 refine cj_reg ?_
 refine lp rfl (p_mv rfl) ?_
 refine lp rfl (p_eql rfl rfl) ?_
 refine lp rfl (p_mv rfl) ?_
 refine lcase (i := 11) (y2.2 == 0) rfl (fun hb => ?_) (fun hb => ?_)
 ·have hm := ifB_t hb hm
  refine lg true rfl rfl rfl ?_
  refine lp rfl (p_mv rfl) ?_
  refine lg true rfl rfl rfl ?_
  refine r_bs R9 [(ByteArray.mk [97, 110, 110].toArray)] rfl rfl rfl (fun _ => by kernel_rfl) rfl (fun s4 => ?_)
  refine lg true rfl rfl rfl ?_
  obtain ⟨y5, hy5, hm⟩ := bindS hm
  refine r_call [] cf18 rfl rfl (ok_slices_Equal_string_string s3 y2.1 s4 [(ByteArray.mk [97, 110, 110].toArray)] hy5) rfl rfl (.cons (.row 1 rfl) (.cons (.row 0 rfl) .nil)) (fun _ => rfl) rfl (fun _ => ?_)
  refine lp rfl (p_pkt rfl rfl) ?_
  refine lp rfl (p_as rfl) ?_
  refine lj_seq ?_
  obtain rfl := Option.some.inj hm
  exact cj_rt () [] Tryz.results19 (.tmp rfl .nil) rfl rfl
 ·have hm := ifB_f hb hm
  refine ls true rfl rfl rfl rfl ?_
  refine ls true rfl rfl rfl rfl ?_
  refine ls true rfl rfl rfl rfl ?_
  refine lp rfl (p_pkf rfl rfl) ?_
  refine lp rfl (p_as rfl) ?_
  refine lj_seq ?_
  obtain rfl := Option.some.inj hm
  exact cj_rt () [] Tryz.results19 (.tmp rfl .nil) rfl rfl
theorem ok_gleelaw2_MembersCome (s0_ : SV) (a0 : (List Int)) {r : Bool} (hm : m_gleelaw2_MembersCome a0 = some r) :
  Ctr Tryz.prog 3 [s0_.v].toArray ([] : List Ent) [RdS R3 (SV.v s0_) a0] (X := Unit) (fun _ => .bool r) (fun _ => []) := by
 unfold m_gleelaw2_MembersCome at hm
 refine ctr_mk (vs := [(0, s0_.v)]) Tryz.func3 rfl Tryz.ntmps3 rfl ⟨rfl, trivial⟩ (fun w0 A => ?_)
 refine cj_seq ?_
 refine cj_reg ?_
 refine lp rfl (p_as rfl) ?_
 refine lj_seq ?_
 refine cj_seq ?_
 refine cj_reg ?_
 refine lp rfl (p_mv rfl) ?_
 refine lp rfl (p_bld [s0_.v, .int .i64 0] rfl (fun _ => by kernel_rfl)) ?_
 refine r_bx (cs := [s0_.v, .int .i64 0]) rfl rfl rfl (fun b1 => ?_)
 refine lp rfl (p_as rfl) ?_
 refine lj_seq ?_
 refine cj_seq ?_
 refine cj_reg ?_
 refine lp rfl (p_mv rfl) ?_
 refine lp rfl (p_mv rfl) ?_
 obtain ⟨y2, hy2, hm⟩ := bindS hm
 refine r_call [0] cf5 rfl rfl (ok_gleemake_Stream_Range b1 s0_ a0 0 0 18 hy2) rfl rfl (.cons (.ro 0 rfl) .nil) (fun _ => rfl) rfl (fun _ => ?_)
 obtain ⟨y3, hy3, hm⟩ := bindS hm
 refine r_call [0] cf4 rfl rfl (ok_gleemake_Stream_Acts b1 s0_ a0 y2.2 y2.1 hy3) rfl rfl (.cons (.ro 0 rfl) .nil) (fun _ => rfl) rfl (fun s4 => ?_)
 refine lp rfl (p_mv rfl) ?_
 refine r_bs R9 [(ByteArray.mk [97, 110, 110].toArray), (ByteArray.mk [98, 111, 98].toArray), (ByteArray.mk [122, 101, 100].toArray), (ByteArray.mk [65].toArray)] rfl rfl rfl (fun _ => by kernel_rfl) rfl (fun s5 => ?_)
 obtain ⟨y6, hy6, hm⟩ := bindS hm
 refine r_call [2] cf6 rfl rfl (ok_gleemake_Stream_Some b1 s0_ a0 y3.2 s5 [(ByteArray.mk [97, 110, 110].toArray), (ByteArray.mk [98, 111, 98].toArray), (ByteArray.mk [122, 101, 100].toArray), (ByteArray.mk [65].toArray)] hy6) rfl rfl (.cons (.ro 2 rfl) (.cons (.row 0 rfl) .nil)) (fun _ => rfl) rfl (fun _ => ?_)
 refine lp rfl (p_mv rfl) ?_
 obtain ⟨y7, hy7, hm⟩ := bindS hm
 refine r_call [0] cf7 rfl rfl (ok_gleemake_Stream_ActTime b1 s0_ a0 y6.2 hy7) rfl rfl (.cons (.ro 2 rfl) .nil) (fun _ => rfl) rfl (fun _ => ?_)
 refine lp rfl (p_as rfl) ?_
 refine lp rfl (p_as rfl) ?_
 refine lp rfl (p_as rfl) ?_
 refine lj_seq ?_
 refine cj_seq ?_
 refine cj_reg ?_
 refine lp rfl (p_mv rfl) ?_
 refine lp rfl (p_mv rfl) ?_
 obtain ⟨y8, hy8, hm⟩ := bindS hm
 refine r_call [] cf8 rfl rfl (ok_club_Refused s4 y3.1 y7.1 hy8) rfl rfl (.cons (.row 2 rfl) .nil) (fun _ => rfl) rfl (fun s9 => ?_)
 refine lp rfl (p_mv rfl) ?_
 refine lp rfl (p_ext rfl rfl) ?_
 refine lp rfl (p_ext rfl rfl) ?_
 refine lp rfl (p_as rfl) ?_
 refine lp rfl (p_as rfl) ?_
 refine lj_seq ?_
 refine cj_seq ?_
 refine cj_reg ?_
 refine lp rfl (p_mv rfl) ?_
 refine lp rfl (p_mv rfl) ?_
 obtain ⟨y10, hy10, hm⟩ := bindS hm
 refine r_call [] cf9 rfl rfl (ok_club_Members s4 y3.1 y7.1 hy10) rfl rfl (.cons (.row 3 rfl) .nil) (fun _ => rfl) rfl (fun s11 => ?_)
 refine lp rfl (p_mv rfl) ?_
 refine lp rfl (p_ext rfl rfl) ?_
 refine lp rfl (p_ext rfl rfl) ?_
 refine lp rfl (p_as rfl) ?_
 refine lp rfl (p_as rfl) ?_
 refine lj_seq ?_
 refine cj_seq ?_
 refine cj_reg ?_
 refine lp rfl (p_mv rfl) ?_
 refine lp rfl (p_mv rfl) ?_
 refine lp rfl (p_mv rfl) ?_
 obtain ⟨y12, hy12, hm⟩ := bindS hm
 refine r_call [] cf10 rfl rfl (ok_club_Since s4 y3.1 y6.1 y7.1 hy12) rfl rfl (.cons (.row 4 rfl) .nil) (fun _ => rfl) rfl (fun _ => ?_)
 refine lp rfl (p_mv rfl) ?_
 refine lp rfl (p_ext rfl rfl) ?_
 refine lp rfl (p_ext rfl rfl) ?_
 refine lp rfl (p_ext rfl rfl) ?_
 refine lp rfl (p_as rfl) ?_
 refine lp rfl (p_as rfl) ?_
 refine lp rfl (p_as rfl) ?_
 refine lj_seq ?_
 refine cj_seq ?_
 refine cj_reg ?_
 refine lp rfl (p_mv rfl) ?_
 refine lp rfl (p_mv rfl) ?_
 obtain ⟨y13, hy13, hm⟩ := bindS hm
 refine r_call [] cf11 rfl rfl (ok_gleelaw2_actsFault s4 y3.1 y7.1 hy13) rfl rfl (.cons (.row 4 rfl) .nil) (fun _ => rfl) rfl (fun _ => ?_)
 refine lp rfl (p_as rfl) ?_
 refine lj_seq ?_
 refine cj_seq ?_
 refine cj_reg ?_
 refine lp rfl (p_mv rfl) ?_
 refine lp rfl (p_mv rfl) ?_
 obtain ⟨y14, hy14, hm⟩ := bindS hm
 refine r_call [] cf11 rfl rfl (ok_gleelaw2_actsFault s4 y3.1 y7.1 hy14) rfl rfl (.cons (.row 4 rfl) .nil) (fun _ => rfl) rfl (fun _ => ?_)
 refine lp rfl (p_mv rfl) ?_
 obtain ⟨y15, hy15, hm⟩ := bindS hm
 refine r_call [] cf13 rfl rfl (ok_gleelaw2_nameFault y6.1 hy15) rfl rfl .nil (fun _ => rfl) rfl (fun _ => ?_)
 refine r_bs R31 [y14, y15] rfl rfl rfl (fun _ => by kernel_rfl) rfl (fun s16 => ?_)
 obtain ⟨y17, hy17, hm⟩ := bindS hm
 refine r_call [] cf12 rfl rfl (ok_gleelaw2_errs s16 [y14, y15] hy17) rfl rfl (.cons (.row 0 rfl) .nil) (fun _ => rfl) rfl (fun _ => ?_)
 refine lp rfl (p_as rfl) ?_
 refine lj_seq ?_
 refine cj_seq ?_
 refine cj_reg ?_
 refine lp rfl (p_as rfl) ?_
 refine lj_seq ?_
 refine cj_seq ?_
 refine cj_reg ?_
 refine lp rfl (p_as rfl) ?_
 refine lj_seq ?_
 refine cj_seq ?_
 refine cj_seq ?_
 refine cj_reg ?_
 refine lp rfl (p_mv rfl) ?_
 refine lp rfl (p_eql rfl rfl) ?_
 refine lj_seq ?_
 obtain ⟨k22, hk22, hm⟩ := bindS hm
 have hRk22 : ∀ t, k22 = .inr t → some t = some r := fun t e => by rw [e] at hm; exact hm
 refine cj_joinK (σ := ((List Int) × (List ByteArray))) (γ := (SV × SV)) (fun u18 => k22 = .inl u18) (fun u18 g19 => [(2, .bool false), (4, s4.v), (5, .string y6.1), (6, .int .i64 y7.1), (7, s9.v), (8, .int .i64 y8.2), (9, s11.v), (10, .int .i64 y10.2), (11, .int .i64 y12.1), (12, .bool y12.2.1), (13, .int .i64 y12.2.2), (14, .int .i64 y13), (15, .int .i64 y17), (16, g19.1.v), (17, g19.2.v)]) (fun u18 g19 => Sat w0 (keys ([] : List Ent)) A [.row R9 (SV.v s11) y10.1, .row R3 (SV.v s9) y8.1, .row R53 (SV.v s4) y3.1, .row R3 (SV.v g19.1) u18.1, .row R9 (SV.v g19.2) u18.2]) (fun u18 g19 hq => ?_) (fun J cnk22 => ?_)
 ·have hm := Sum.fin_l hq hm
  refine cj_seq ?_
  refine cj_reg ?_
  refine lp rfl (p_as rfl) ?_
  refine lp rfl (p_as rfl) ?_
  refine lj_seq ?_
  refine cj_seq ?_
  refine cj_seq ?_
  refine cj_reg ?_
  refine lp rfl (p_mv rfl) ?_
  refine lp rfl (p_eql rfl rfl) ?_
  refine lj_seq ?_
  obtain ⟨k31, hk31, hm⟩ := bindS hm
  have hRk31 : ∀ t, k31 = .inr t → some t = some r := fun t e => by rw [e] at hm; exact hm
  refine cj_joinK (σ := (Int × Bool)) (γ := Unit) (fun u29 => k31 = .inl u29) (fun u29 g30 => [(2, .bool false), (7, s9.v), (8, .int .i64 y8.2), (9, s11.v), (10, .int .i64 y10.2), (11, .int .i64 y12.1), (12, .bool y12.2.1), (13, .int .i64 y12.2.2), (14, .int .i64 y13), (15, .int .i64 y17), (16, g19.1.v), (17, g19.2.v), (18, .int .i64 u29.1), (19, .bool u29.2)]) (fun u29 g30 => Sat w0 (keys ([] : List Ent)) A [.row R9 (SV.v s11) y10.1, .row R3 (SV.v s9) y8.1, .row R3 (SV.v g19.1) u18.1, .row R9 (SV.v g19.2) u18.2]) (fun u29 g30 hq => ?_) (fun J cnk31 => ?_)
  ·have hm := Sum.fin_l hq hm
   refine cj_seq ?_
   refine cj_reg ?_
   refine lp rfl (p_mv rfl) ?_
   refine lp rfl (p_mv rfl) ?_
   refine lp rfl (p_eql rfl rfl) ?_
   refine lp rfl (p_mv rfl) ?_
   refine lcase (i := 82) (y8.2 == y13) rfl (fun hb => ?_) (fun hb => ?_)
   ·have hm := ifB_t hb hm
    refine lg true rfl rfl rfl ?_
    refine lp rfl (p_mv rfl) ?_
    refine lg true rfl rfl rfl ?_
    refine lp rfl (p_mv rfl) ?_
    refine lg true rfl rfl rfl ?_
    obtain ⟨y33, hy33, hm⟩ := bindS hm
    refine r_call [] cf17 rfl rfl (ok_slices_Equal_int_int s9 y8.1 g19.1 u18.1 hy33) rfl rfl (.cons (.row 1 rfl) (.cons (.row 2 rfl) .nil)) (fun _ => rfl) rfl (fun _ => ?_)
    refine lp rfl (p_pkt rfl rfl) ?_
    refine lp rfl (p_mv rfl) ?_
    refine lcase (i := 87) y33 rfl (fun hb => ?_) (fun hb => ?_)
    ·have hm := ifB_t hb hm
     refine lg true rfl rfl rfl ?_
     refine lp rfl (p_mv rfl) ?_
     refine lg true rfl rfl rfl ?_
     refine lp rfl (p_mv rfl) ?_
     refine lg true rfl rfl rfl ?_
     refine lp rfl (p_eql rfl rfl) ?_
     refine lp rfl (p_pkt rfl rfl) ?_
     refine lp rfl (p_mv rfl) ?_
     refine lcase (i := 92) (y10.2 == y13) rfl (fun hb => ?_) (fun hb => ?_)
     ·have hm := ifB_t hb hm
      refine lg true rfl rfl rfl ?_
      refine lp rfl (p_mv rfl) ?_
      refine lg true rfl rfl rfl ?_
      refine lp rfl (p_mv rfl) ?_
      refine lg true rfl rfl rfl ?_
      obtain ⟨y34, hy34, hm⟩ := bindS hm
      refine r_call [] cf18 rfl rfl (ok_slices_Equal_string_string s11 y10.1 g19.2 u18.2 hy34) rfl rfl (.cons (.row 0 rfl) (.cons (.row 3 rfl) .nil)) (fun _ => rfl) rfl (fun _ => ?_)
      refine lp rfl (p_pkt rfl rfl) ?_
      refine lp rfl (p_mv rfl) ?_
      refine lcase (i := 97) y34 rfl (fun hb => ?_) (fun hb => ?_)
      ·have hm := ifB_t hb hm
       refine lg true rfl rfl rfl ?_
       refine lp rfl (p_mv rfl) ?_
       refine lg true rfl rfl rfl ?_
       refine lp rfl (p_mv rfl) ?_
       refine lg true rfl rfl rfl ?_
       refine lp rfl (p_eql rfl rfl) ?_
       refine lp rfl (p_pkt rfl rfl) ?_
       refine lp rfl (p_mv rfl) ?_
       refine lcase (i := 102) (y12.2.2 == y17) rfl (fun hb => ?_) (fun hb => ?_)
       ·have hm := ifB_t hb hm
        refine lg true rfl rfl rfl ?_
        refine lp rfl (p_mv rfl) ?_
        refine lg true rfl rfl rfl ?_
        refine lp rfl (p_mv rfl) ?_
        refine lg true rfl rfl rfl ?_
        refine lp rfl (p_eql rfl rfl) ?_
        refine lp rfl (p_pkt rfl rfl) ?_
        refine lp rfl (p_mv rfl) ?_
        refine lcase (i := 107) (y12.1 == u29.1) rfl (fun hb => ?_) (fun hb => ?_)
        ·have hm := ifB_t hb hm
         refine lg true rfl rfl rfl ?_
         refine lp rfl (p_mv rfl) ?_
         refine lg true rfl rfl rfl ?_
         refine lp rfl (p_mv rfl) ?_
         refine lg true rfl rfl rfl ?_
         refine lp rfl (p_eqb Tryz.underlying4 rfl rfl) ?_
         refine lp rfl (p_pkt rfl rfl) ?_
         refine lp rfl (p_mv rfl) ?_
         refine lcase (i := 112) (y12.2.1 == u29.2) rfl (fun hb => ?_) (fun hb => ?_)
         ·have hm := ifB_t hb hm
          refine lg true rfl rfl rfl ?_
          obtain ⟨y35, hy35, hm⟩ := bindS hm
          refine r_call [] cf19 rfl rfl (ok_gleelaw2_clubbed  hy35) rfl rfl .nil (fun _ => rfl) rfl (fun _ => ?_)
          refine lp rfl (p_pkt rfl rfl) ?_
          refine lp rfl (p_as rfl) ?_
          refine lj_seq ?_
          obtain rfl := Option.some.inj hm
          exact cj_rt () [] Tryz.results3 (.tmp rfl .nil) rfl rfl
         ·have hm := ifB_f hb hm
          refine ls true rfl rfl rfl rfl ?_
          refine lp rfl (p_pkf rfl rfl) ?_
          refine lp rfl (p_as rfl) ?_
          refine lj_seq ?_
          obtain rfl := Option.some.inj hm
          exact cj_rt () [] Tryz.results3 (.tmp rfl .nil) rfl rfl
        ·have hm := ifB_f hb hm
         refine ls true rfl rfl rfl rfl ?_
         refine ls true rfl rfl rfl rfl ?_
         refine ls true rfl rfl rfl rfl ?_
         refine lp rfl (p_pkf rfl rfl) ?_
         refine lp rfl (p_mv rfl) ?_
         refine ls true rfl rfl rfl rfl ?_
         refine lp rfl (p_pkf rfl rfl) ?_
         refine lp rfl (p_as rfl) ?_
         refine lj_seq ?_
         obtain rfl := Option.some.inj hm
         exact cj_rt () [] Tryz.results3 (.tmp rfl .nil) rfl rfl
       ·have hm := ifB_f hb hm
        refine ls true rfl rfl rfl rfl ?_
        refine ls true rfl rfl rfl rfl ?_
        refine ls true rfl rfl rfl rfl ?_
        refine lp rfl (p_pkf rfl rfl) ?_
        refine lp rfl (p_mv rfl) ?_
        refine ls true rfl rfl rfl rfl ?_
        refine ls true rfl rfl rfl rfl ?_
        refine ls true rfl rfl rfl rfl ?_
        refine lp rfl (p_pkf rfl rfl) ?_
        refine lp rfl (p_mv rfl) ?_
        refine ls true rfl rfl rfl rfl ?_
        refine lp rfl (p_pkf rfl rfl) ?_
        refine lp rfl (p_as rfl) ?_
        refine lj_seq ?_
        obtain rfl := Option.some.inj hm
        exact cj_rt () [] Tryz.results3 (.tmp rfl .nil) rfl rfl
      ·have hm := ifB_f hb hm
       refine ls true rfl rfl rfl rfl ?_
       refine ls true rfl rfl rfl rfl ?_
       refine ls true rfl rfl rfl rfl ?_
       refine lp rfl (p_pkf rfl rfl) ?_
       refine lp rfl (p_mv rfl) ?_
       refine ls true rfl rfl rfl rfl ?_
       refine ls true rfl rfl rfl rfl ?_
       refine ls true rfl rfl rfl rfl ?_
       refine lp rfl (p_pkf rfl rfl) ?_
       refine lp rfl (p_mv rfl) ?_
       refine ls true rfl rfl rfl rfl ?_
       refine ls true rfl rfl rfl rfl ?_
       refine ls true rfl rfl rfl rfl ?_
       refine lp rfl (p_pkf rfl rfl) ?_
       refine lp rfl (p_mv rfl) ?_
       refine ls true rfl rfl rfl rfl ?_
       refine lp rfl (p_pkf rfl rfl) ?_
       refine lp rfl (p_as rfl) ?_
       refine lj_seq ?_
       obtain rfl := Option.some.inj hm
       exact cj_rt () [] Tryz.results3 (.tmp rfl .nil) rfl rfl
     ·have hm := ifB_f hb hm
      refine ls true rfl rfl rfl rfl ?_
      refine ls true rfl rfl rfl rfl ?_
      refine ls true rfl rfl rfl rfl ?_
      refine lp rfl (p_pkf rfl rfl) ?_
      refine lp rfl (p_mv rfl) ?_
      refine ls true rfl rfl rfl rfl ?_
      refine ls true rfl rfl rfl rfl ?_
      refine ls true rfl rfl rfl rfl ?_
      refine lp rfl (p_pkf rfl rfl) ?_
      refine lp rfl (p_mv rfl) ?_
      refine ls true rfl rfl rfl rfl ?_
      refine ls true rfl rfl rfl rfl ?_
      refine ls true rfl rfl rfl rfl ?_
      refine lp rfl (p_pkf rfl rfl) ?_
      refine lp rfl (p_mv rfl) ?_
      refine ls true rfl rfl rfl rfl ?_
      refine ls true rfl rfl rfl rfl ?_
      refine ls true rfl rfl rfl rfl ?_
      refine lp rfl (p_pkf rfl rfl) ?_
      refine lp rfl (p_mv rfl) ?_
      refine ls true rfl rfl rfl rfl ?_
      refine lp rfl (p_pkf rfl rfl) ?_
      refine lp rfl (p_as rfl) ?_
      refine lj_seq ?_
      obtain rfl := Option.some.inj hm
      exact cj_rt () [] Tryz.results3 (.tmp rfl .nil) rfl rfl
    ·have hm := ifB_f hb hm
     refine ls true rfl rfl rfl rfl ?_
     refine ls true rfl rfl rfl rfl ?_
     refine ls true rfl rfl rfl rfl ?_
     refine lp rfl (p_pkf rfl rfl) ?_
     refine lp rfl (p_mv rfl) ?_
     refine ls true rfl rfl rfl rfl ?_
     refine ls true rfl rfl rfl rfl ?_
     refine ls true rfl rfl rfl rfl ?_
     refine lp rfl (p_pkf rfl rfl) ?_
     refine lp rfl (p_mv rfl) ?_
     refine ls true rfl rfl rfl rfl ?_
     refine ls true rfl rfl rfl rfl ?_
     refine ls true rfl rfl rfl rfl ?_
     refine lp rfl (p_pkf rfl rfl) ?_
     refine lp rfl (p_mv rfl) ?_
     refine ls true rfl rfl rfl rfl ?_
     refine ls true rfl rfl rfl rfl ?_
     refine ls true rfl rfl rfl rfl ?_
     refine lp rfl (p_pkf rfl rfl) ?_
     refine lp rfl (p_mv rfl) ?_
     refine ls true rfl rfl rfl rfl ?_
     refine ls true rfl rfl rfl rfl ?_
     refine ls true rfl rfl rfl rfl ?_
     refine lp rfl (p_pkf rfl rfl) ?_
     refine lp rfl (p_mv rfl) ?_
     refine ls true rfl rfl rfl rfl ?_
     refine lp rfl (p_pkf rfl rfl) ?_
     refine lp rfl (p_as rfl) ?_
     refine lj_seq ?_
     obtain rfl := Option.some.inj hm
     exact cj_rt () [] Tryz.results3 (.tmp rfl .nil) rfl rfl
   ·have hm := ifB_f hb hm
    refine ls true rfl rfl rfl rfl ?_
    refine ls true rfl rfl rfl rfl ?_
    refine ls true rfl rfl rfl rfl ?_
    refine lp rfl (p_pkf rfl rfl) ?_
    refine lp rfl (p_mv rfl) ?_
    refine ls true rfl rfl rfl rfl ?_
    refine ls true rfl rfl rfl rfl ?_
    refine ls true rfl rfl rfl rfl ?_
    refine lp rfl (p_pkf rfl rfl) ?_
    refine lp rfl (p_mv rfl) ?_
    refine ls true rfl rfl rfl rfl ?_
    refine ls true rfl rfl rfl rfl ?_
    refine ls true rfl rfl rfl rfl ?_
    refine lp rfl (p_pkf rfl rfl) ?_
    refine lp rfl (p_mv rfl) ?_
    refine ls true rfl rfl rfl rfl ?_
    refine ls true rfl rfl rfl rfl ?_
    refine ls true rfl rfl rfl rfl ?_
    refine lp rfl (p_pkf rfl rfl) ?_
    refine lp rfl (p_mv rfl) ?_
    refine ls true rfl rfl rfl rfl ?_
    refine ls true rfl rfl rfl rfl ?_
    refine ls true rfl rfl rfl rfl ?_
    refine lp rfl (p_pkf rfl rfl) ?_
    refine lp rfl (p_mv rfl) ?_
    refine ls true rfl rfl rfl rfl ?_
    refine ls true rfl rfl rfl rfl ?_
    refine ls true rfl rfl rfl rfl ?_
    refine lp rfl (p_pkf rfl rfl) ?_
    refine lp rfl (p_mv rfl) ?_
    refine ls true rfl rfl rfl rfl ?_
    refine lp rfl (p_pkf rfl rfl) ?_
    refine lp rfl (p_as rfl) ?_
    refine lj_seq ?_
    obtain rfl := Option.some.inj hm
    exact cj_rt () [] Tryz.results3 (.tmp rfl .nil) rfl rfl
  ·have hm := hk31
   refine cj_if (b := y17 == 0) rfl (fun hb => ?_) (fun hb => ?_)
   ·have hm := ifB_t hb hm
    refine cj_reg ?_
    refine lp rfl (p_mv rfl) ?_
    refine lp rfl (p_mv rfl) ?_
    refine lp rfl (p_mv rfl) ?_
    obtain ⟨y32, hy32, hm⟩ := bindS hm
    refine r_call [] cf16 rfl rfl (ok_gleeref2_SinceOf s4 y3.1 y6.1 y7.1 hy32) rfl rfl (.cons (.row 2 rfl) .nil) (fun _ => rfl) rfl (fun _ => ?_)
    refine lp rfl (p_mv rfl) ?_
    refine lp rfl (p_ext rfl rfl) ?_
    refine lp rfl (p_ext rfl rfl) ?_
    refine lp rfl (p_as rfl) ?_
    refine lp rfl (p_as rfl) ?_
    refine lj_nil ?_
    exact cnk31 _ _ (y32.1, y32.2) () (Option.some.inj hm).symm ⟨rfl, rfl, rfl, rfl, rfl, rfl, rfl, rfl, rfl, rfl, rfl, rfl, rfl, rfl, trivial⟩ (fun _ h => h.picks [0, 0, 1, 1] rfl)
   ·have hm := ifB_f hb hm
    refine cj_skip ?_
    exact cnk31 _ _ (0, false) () (Option.some.inj hm).symm ⟨rfl, rfl, rfl, rfl, rfl, rfl, rfl, rfl, rfl, rfl, rfl, rfl, rfl, rfl, trivial⟩ (fun _ h => h.picks [0, 0, 1, 1] rfl)
 ·have hm := hk22
  refine cj_if (b := y13 == 0) rfl (fun hb => ?_) (fun hb => ?_)
  ·have hm := ifB_t hb hm
   refine cj_reg ?_
   refine lp rfl (p_mv rfl) ?_
   refine lp rfl (p_mv rfl) ?_
   obtain ⟨y23, hy23, hm⟩ := bindS hm
   refine r_call [] cf14 rfl rfl (ok_gleeref2_RefusedActs s4 y3.1 y7.1 hy23) rfl rfl (.cons (.row 5 rfl) .nil) (fun _ => rfl) rfl (fun s24 => ?_)
   refine lp rfl (p_mv rfl) ?_
   refine lp rfl (p_mv rfl) ?_
   obtain ⟨y25, hy25, hm⟩ := bindS hm
   refine r_call [] cf15 rfl rfl (ok_gleeref2_MembersAt s4 y3.1 y7.1 hy25) rfl rfl (.cons (.row 6 rfl) .nil) (fun _ => rfl) rfl (fun s26 => ?_)
   refine lp rfl (p_as rfl) ?_
   refine lp rfl (p_as rfl) ?_
   refine lj_nil ?_
   exact cnk22 _ _ (y23, y25) (s24, s26) (Option.some.inj hm).symm ⟨rfl, rfl, rfl, rfl, rfl, rfl, rfl, rfl, rfl, rfl, rfl, rfl, rfl, rfl, rfl, trivial⟩ (fun _ h => h.picks [3, 3, 5, 1, 0] rfl)
  ·have hm := ifB_f hb hm
   refine cj_skip ?_
   refine nj_nil R3 ?_
   refine nj_nil R9 ?_
   exact cnk22 _ _ ([], []) (nilS, nilS) (Option.some.inj hm).symm ⟨rfl, rfl, rfl, rfl, rfl, rfl, rfl, rfl, rfl, rfl, rfl, rfl, rfl, rfl, rfl, trivial⟩ (fun _ h => h.picks [3, 3, 5, 1, 0] rfl)
end Go.Proofs.YtnhgkhhceokibaaGreatDoor
