/- The walks. Written by program. -/
import Derived.Test.YtdeoejkgmeemaahGreatDoorD
import Derived.Test.YtdeoejkgmeemaahGreatDoorXW
namespace Go.Proofs.YtdeoejkgmeemaahGreatDoor
open Go Go.J Go.G
set_option maxRecDepth 100000
set_option linter.unusedVariables false
set_option linter.unusedSimpArgs false
theorem ok_gleemake_Below (a0 : Int) (a1 : Int) {r : Int} (hm : m_gleemake_Below a0 a1 = some r) :
    Ctr Tryz.prog 63 [.int .i64 a0, .int .i64 a1].toArray ([] : List Ent) [] (X := Unit) (fun _ => .int .i64 r) (fun _ => []) := by
  unfold m_gleemake_Below at hm
  refine ctr_mk (vs := [(0, .int .i64 a0), (1, .int .i64 a1)]) Tryz.func63 rfl Tryz.ntmps63 rfl ⟨rfl, rfl, trivial⟩ (fun w0 A => ?_)
  refine cj_seq ?_
  refine cj_reg ?_
  refine lp rfl (p_as rfl) ?_
  refine lj_seq ?_
  refine cj_seq ?_
  refine cj_seq ?_
  refine cj_reg ?_
  refine lp rfl (p_mv rfl) ?_
  refine lp rfl (p_lss rfl rfl) ?_
  refine lj_seq ?_
  refine cj_if (b := decide (a1 < 1)) rfl (fun hb => ?_) (fun hb => ?_)
  · have hm := ifB_t hb hm
    refine cj_seq ?_
    refine cj_reg ?_
    refine lp rfl (p_as rfl) ?_
    refine lj_seq ?_
    obtain rfl := Option.some.inj hm
    exact cj_rt () [] Tryz.results63 (.tmp rfl .nil) rfl rfl
  · have hm := ifB_f hb hm
    refine cj_skip ?_
    refine nj_seq ?_
    refine cj_seq ?_
    refine cj_reg ?_
    refine lp rfl (p_mv rfl) ?_
    refine lp rfl (p_mv rfl) ?_
    obtain ⟨z1, hz1, hm⟩ := bindS hm
    refine lp rfl (p_remM hz1 rfl rfl) ?_
    refine lp rfl (p_as rfl) ?_
    refine lj_seq ?_
    refine cj_seq ?_
    refine cj_seq ?_
    refine cj_reg ?_
    refine lp rfl (p_mv rfl) ?_
    refine lp rfl (p_lss rfl rfl) ?_
    refine lj_seq ?_
    refine cj_if (b := decide (z1 < 0)) rfl (fun hb => ?_) (fun hb => ?_)
    · have hm := ifB_t hb hm
      refine cj_reg ?_
      refine lp rfl (p_mv rfl) ?_
      refine lp rfl (p_mv rfl) ?_
      refine lp rfl (p_add rfl rfl) ?_
      refine lp rfl (p_as rfl) ?_
      refine lj_seq ?_
      refine cj_seq ?_
      refine cj_reg ?_
      refine lp rfl (p_mv rfl) ?_
      refine lp rfl (p_as rfl) ?_
      refine lj_seq ?_
      obtain rfl := Option.some.inj hm
      exact cj_rt () [] Tryz.results63 (.tmp rfl .nil) rfl rfl
    · have hm := ifB_f hb hm
      refine cj_skip ?_
      refine nj_seq ?_
      refine cj_seq ?_
      refine cj_reg ?_
      refine lp rfl (p_mv rfl) ?_
      refine lp rfl (p_as rfl) ?_
      refine lj_seq ?_
      obtain rfl := Option.some.inj hm
      exact cj_rt () [] Tryz.results63 (.tmp rfl .nil) rfl rfl
theorem ok_gleemake_Stream_Next (b0_ : Nat) (s0_0_ : SV) (a0_0 : (List Int)) (a0_1 : Int) (a1 : Int) {r : Int × Int} (hm : m_gleemake_Stream_Next a0_0 a0_1 a1 = some r) :
    Ctr Tryz.prog 36 [.pointer (some ⟨b0_, 0, none⟩), .int .i64 a1].toArray [.box b0_ 25 [s0_0_.v, .int .i64 a0_1]] [RdS R3 (SV.v s0_0_) a0_0] (X := Unit) (fun _ => .int .i64 r.1) (fun _ => [.box b0_ 25 [s0_0_.v, .int .i64 r.2]]) := by
  unfold m_gleemake_Stream_Next at hm
  refine ctr_mk (vs := [(0, .pointer (some ⟨b0_, 0, none⟩)), (1, .int .i64 a1)]) Tryz.func36 rfl Tryz.ntmps36 rfl ⟨rfl, rfl, trivial⟩ (fun w0 A => ?_)
  refine cj_seq ?_
  refine cj_reg ?_
  refine lp rfl (p_as rfl) ?_
  refine lj_seq ?_
  refine cj_seq ?_
  refine cj_reg ?_
  refine lp rfl (p_mv rfl) ?_
  refine lp rfl (p_nc rfl) ?_
  refine lp rfl (p_fab fl25_1 rfl) ?_
  refine lp rfl (p_lbs ty3 rfl (j := 0) rfl rfl) ?_
  refine lp rfl (p_add rfl rfl) ?_
  refine lp rfl (p_nc rfl) ?_
  refine lp rfl (p_fab fl25_1 rfl) ?_
  refine r_sb (vs := [.int .i64 (w64 (a0_1 + 1))]) (j := 0) ty3 rfl rfl rfl rfl rfl rfl rfl ?_
  refine lj_seq ?_
  refine cj_seq ?_
  refine cj_seq ?_
  refine cj_reg ?_
  refine lp rfl (p_mv rfl) ?_
  refine lp rfl (p_nc rfl) ?_
  refine lp rfl (p_fab fl25_0 rfl) ?_
  refine lp rfl (p_lbs ty22 rfl (j := 0) rfl rfl) ?_
  refine lp rfl (p_len Tryz.underlying22 rfl (.ro 1 rfl)) ?_
  refine lp rfl (p_eql rfl rfl) ?_
  refine lj_seq ?_
  refine cj_if (b := (a0_0.length : Int) == 0) rfl (fun hb => ?_) (fun hb => ?_)
  · have hm := ifB_t hb hm
    refine cj_seq ?_
    refine cj_reg ?_
    refine lp rfl (p_mv rfl) ?_
    refine lp rfl (p_nc rfl) ?_
    refine lp rfl (p_fab fl25_1 rfl) ?_
    refine lp rfl (p_lbs ty3 rfl (j := 0) rfl rfl) ?_
    refine lp rfl (p_mul rfl rfl) ?_
    refine lp rfl (p_mv rfl) ?_
    obtain ⟨y1, hy1, hm⟩ := bindS hm
    refine r_call [] cf63 rfl rfl (ok_gleemake_Below (w64 ((w64 (a0_1 + 1)) * 7919)) a1 hy1) rfl rfl .nil (fun _ => rfl) rfl (fun _ => ?_)
    refine lp rfl (p_as rfl) ?_
    refine lj_seq ?_
    obtain rfl := Option.some.inj hm
    exact cj_rt () [0] Tryz.results36 (.tmp rfl .nil) rfl rfl
  · have hm := ifB_f hb hm
    refine cj_skip ?_
    refine nj_seq ?_
    refine cj_seq ?_
    refine cj_quiet (by kernel_rfl) (by kernel_rfl) ?_
    refine q_p rfl (p_mv rfl) ?_
    refine q_p rfl (p_nc rfl) ?_
    refine q_p rfl (p_fab fl25_1 rfl) ?_
    refine q_p rfl (p_lbs ty3 rfl (j := 0) rfl rfl) ?_
    refine q_p rfl (p_sub rfl rfl) ?_
    refine q_p rfl (p_mv rfl) ?_
    refine q_p rfl (p_nc rfl) ?_
    refine q_p rfl (p_fab fl25_0 rfl) ?_
    refine q_p rfl (p_lbs ty22 rfl (j := 0) rfl rfl) ?_
    refine q_p rfl (p_len Tryz.underlying22 rfl (.ro 1 rfl)) ?_
    obtain ⟨z2, hz2, hm⟩ := bindS hm
    refine q_p rfl (p_remM hz2 rfl rfl) ?_
    refine q_p rfl (p_as rfl) ?_
    refine q_nil ?_
    refine nj_seq ?_
    refine cj_seq ?_
    refine cj_quiet (by kernel_rfl) (by kernel_rfl) ?_
    refine q_p rfl (p_mv rfl) ?_
    refine q_p rfl (p_nc rfl) ?_
    refine q_p rfl (p_fab fl25_1 rfl) ?_
    refine q_p rfl (p_lbs ty3 rfl (j := 0) rfl rfl) ?_
    refine q_p rfl (p_sub rfl rfl) ?_
    refine q_p rfl (p_mv rfl) ?_
    refine q_p rfl (p_nc rfl) ?_
    refine q_p rfl (p_fab fl25_0 rfl) ?_
    refine q_p rfl (p_lbs ty22 rfl (j := 0) rfl rfl) ?_
    refine q_p rfl (p_len Tryz.underlying22 rfl (.ro 1 rfl)) ?_
    obtain ⟨z3, hz3, hm⟩ := bindS hm
    refine q_p rfl (p_quoM hz3 rfl rfl) ?_
    refine q_p rfl (p_as rfl) ?_
    refine q_nil ?_
    refine nj_seq ?_
    refine cj_seq ?_
    refine cj_reg ?_
    refine lp rfl (p_mv rfl) ?_
    refine lp rfl (p_nc rfl) ?_
    refine lp rfl (p_fab fl25_0 rfl) ?_
    refine lp rfl (p_lbs ty22 rfl (j := 0) rfl rfl) ?_
    refine lp rfl (p_mv rfl) ?_
    obtain ⟨e4, he4, hm⟩ := bindS hm
    refine lp rfl (p_idx Tryz.underlying22 ty3 rfl rfl (.ro 1 rfl) he4) ?_
    refine lp rfl (p_lde (o := 0) ty3 rfl rfl (.ro 1 rfl) (getI_spec he4).2 rfl) ?_
    obtain ⟨y5, hy5, hm⟩ := bindS hm
    refine r_call [] cf63 rfl rfl (ok_gleemake_Below e4 1073741824 hy5) rfl rfl .nil (fun _ => rfl) rfl (fun _ => ?_)
    refine lp rfl (p_mv rfl) ?_
    refine lp rfl (p_mv rfl) ?_
    refine lp rfl (p_add rfl rfl) ?_
    refine lp rfl (p_mul rfl rfl) ?_
    refine lp rfl (p_add rfl rfl) ?_
    refine lp rfl (p_mv rfl) ?_
    obtain ⟨y6, hy6, hm⟩ := bindS hm
    refine r_call [] cf63 rfl rfl (ok_gleemake_Below (w64 (y5 + (w64 (z3 * (w64 (7919 + z2)))))) a1 hy6) rfl rfl .nil (fun _ => rfl) rfl (fun _ => ?_)
    refine lp rfl (p_as rfl) ?_
    refine lj_seq ?_
    obtain rfl := Option.some.inj hm
    exact cj_rt () [0] Tryz.results36 (.tmp rfl .nil) rfl rfl
theorem ok_gleemake_Stream_Flip (b0_ : Nat) (s0_0_ : SV) (a0_0 : (List Int)) (a0_1 : Int) (a1 : Int) {r : Bool × Int} (hm : m_gleemake_Stream_Flip a0_0 a0_1 a1 = some r) :
    Ctr Tryz.prog 17 [.pointer (some ⟨b0_, 0, none⟩), .int .i64 a1].toArray [.box b0_ 25 [s0_0_.v, .int .i64 a0_1]] [RdS R3 (SV.v s0_0_) a0_0] (X := Unit) (fun _ => .bool r.1) (fun _ => [.box b0_ 25 [s0_0_.v, .int .i64 r.2]]) := by
  unfold m_gleemake_Stream_Flip at hm
  refine ctr_mk (vs := [(0, .pointer (some ⟨b0_, 0, none⟩)), (1, .int .i64 a1)]) Tryz.func17 rfl Tryz.ntmps17 rfl ⟨rfl, rfl, trivial⟩ (fun w0 A => ?_)
  refine cj_seq ?_
  refine cj_reg ?_
  refine lp rfl (p_as rfl) ?_
  refine lj_seq ?_
  refine cj_seq ?_
  refine cj_reg ?_
  refine lp rfl (p_mv rfl) ?_
  refine lp rfl (p_mv rfl) ?_
  obtain ⟨y1, hy1, hm⟩ := bindS hm
  refine r_call [0] cf36 rfl rfl (ok_gleemake_Stream_Next b0_ s0_0_ a0_0 a0_1 a1 hy1) rfl rfl (.cons (.ro 0 rfl) .nil) (fun _ => rfl) rfl (fun _ => ?_)
  refine lp rfl (p_eql rfl rfl) ?_
  refine lp rfl (p_as rfl) ?_
  refine lj_seq ?_
  obtain rfl := Option.some.inj hm
  exact cj_rt () [0] Tryz.results17 (.tmp rfl .nil) rfl rfl
theorem ok_gleemake_Stream_Pick (b0_ : Nat) (s0_0_ : SV) (a0_0 : (List Int)) (a0_1 : Int) (s1_ : SV) (a1 : (List Int)) {r : Int × Int} (hm : m_gleemake_Stream_Pick a0_0 a0_1 a1 = some r) :
    Ctr Tryz.prog 19 [.pointer (some ⟨b0_, 0, none⟩), s1_.v].toArray [.box b0_ 25 [s0_0_.v, .int .i64 a0_1]] [RdS R3 (SV.v s0_0_) a0_0, RdS R3 (SV.v s1_) a1] (X := Unit) (fun _ => .int .i64 r.1) (fun _ => [.box b0_ 25 [s0_0_.v, .int .i64 r.2]]) := by
  unfold m_gleemake_Stream_Pick at hm
  refine ctr_mk (vs := [(0, .pointer (some ⟨b0_, 0, none⟩)), (1, s1_.v)]) Tryz.func19 rfl Tryz.ntmps19 rfl ⟨rfl, rfl, trivial⟩ (fun w0 A => ?_)
  refine cj_seq ?_
  refine cj_reg ?_
  refine lp rfl (p_as rfl) ?_
  refine lj_seq ?_
  refine cj_seq ?_
  refine cj_reg ?_
  refine lp rfl (p_mv rfl) ?_
  refine lp rfl (p_mv rfl) ?_
  refine lp rfl (p_mv rfl) ?_
  refine lp rfl (p_len Tryz.underlying22 rfl (.ro 2 rfl)) ?_
  obtain ⟨y1, hy1, hm⟩ := bindS hm
  refine r_call [0] cf36 rfl rfl (ok_gleemake_Stream_Next b0_ s0_0_ a0_0 a0_1 (a1.length : Int) hy1) rfl rfl (.cons (.ro 0 rfl) .nil) (fun _ => rfl) rfl (fun _ => ?_)
  obtain ⟨e2, he2, hm⟩ := bindS hm
  refine lp rfl (p_idx Tryz.underlying22 ty3 rfl rfl (.ro 2 rfl) he2) ?_
  refine lp rfl (p_lde (o := 0) ty3 rfl rfl (.ro 2 rfl) (getI_spec he2).2 rfl) ?_
  refine lp rfl (p_as rfl) ?_
  refine lj_seq ?_
  obtain rfl := Option.some.inj hm
  exact cj_rt () [0] Tryz.results19 (.tmp rfl .nil) rfl rfl
theorem ok_gleemake_Stream_Range (b0_ : Nat) (s0_0_ : SV) (a0_0 : (List Int)) (a0_1 : Int) (a1 : Int) (a2 : Int) {r : Int × Int} (hm : m_gleemake_Stream_Range a0_0 a0_1 a1 a2 = some r) :
    Ctr Tryz.prog 12 [.pointer (some ⟨b0_, 0, none⟩), .int .i64 a1, .int .i64 a2].toArray [.box b0_ 25 [s0_0_.v, .int .i64 a0_1]] [RdS R3 (SV.v s0_0_) a0_0] (X := Unit) (fun _ => .int .i64 r.1) (fun _ => [.box b0_ 25 [s0_0_.v, .int .i64 r.2]]) := by
  unfold m_gleemake_Stream_Range at hm
  refine ctr_mk (vs := [(0, .pointer (some ⟨b0_, 0, none⟩)), (1, .int .i64 a1), (2, .int .i64 a2)]) Tryz.func12 rfl Tryz.ntmps12 rfl ⟨rfl, rfl, rfl, trivial⟩ (fun w0 A => ?_)
  refine cj_seq ?_
  refine cj_reg ?_
  refine lp rfl (p_as rfl) ?_
  refine lj_seq ?_
  refine cj_seq ?_
  refine cj_seq ?_
  refine cj_reg ?_
  refine lp rfl (p_mv rfl) ?_
  refine lp rfl (p_mv rfl) ?_
  refine lp rfl (p_lss rfl rfl) ?_
  refine lj_seq ?_
  refine cj_if (b := decide (a2 < a1)) rfl (fun hb => ?_) (fun hb => ?_)
  · have hm := ifB_t hb hm
    refine cj_seq ?_
    refine cj_reg ?_
    refine lp rfl (p_mv rfl) ?_
    refine lp rfl (p_as rfl) ?_
    refine lj_seq ?_
    obtain rfl := Option.some.inj hm
    exact cj_rt () [0] Tryz.results12 (.tmp rfl .nil) rfl rfl
  · have hm := ifB_f hb hm
    refine cj_skip ?_
    refine nj_seq ?_
    refine cj_seq ?_
    refine cj_reg ?_
    refine lp rfl (p_mv rfl) ?_
    refine lp rfl (p_mv rfl) ?_
    refine lp rfl (p_mv rfl) ?_
    refine lp rfl (p_mv rfl) ?_
    refine lp rfl (p_sub rfl rfl) ?_
    refine lp rfl (p_add rfl rfl) ?_
    obtain ⟨y1, hy1, hm⟩ := bindS hm
    refine r_call [0] cf36 rfl rfl (ok_gleemake_Stream_Next b0_ s0_0_ a0_0 a0_1 (w64 ((w64 (a2 - a1)) + 1)) hy1) rfl rfl (.cons (.ro 0 rfl) .nil) (fun _ => rfl) rfl (fun _ => ?_)
    refine lp rfl (p_add rfl rfl) ?_
    refine lp rfl (p_as rfl) ?_
    refine lj_seq ?_
    obtain rfl := Option.some.inj hm
    exact cj_rt () [0] Tryz.results12 (.tmp rfl .nil) rfl rfl
theorem ok_gleemake_Stream_Odd (b0_ : Nat) (s0_0_ : SV) (a0_0 : (List Int)) (a0_1 : Int) (a1 : Int) (a2 : Int) {r : Int × Int} (hm : m_gleemake_Stream_Odd a0_0 a0_1 a1 a2 = some r) :
    Ctr Tryz.prog 18 [.pointer (some ⟨b0_, 0, none⟩), .int .i64 a1, .int .i64 a2].toArray [.box b0_ 25 [s0_0_.v, .int .i64 a0_1]] [RdS R3 (SV.v s0_0_) a0_0] (X := Unit) (fun _ => .int .i64 r.1) (fun _ => [.box b0_ 25 [s0_0_.v, .int .i64 r.2]]) := by
  unfold m_gleemake_Stream_Odd at hm
  refine ctr_mk (vs := [(0, .pointer (some ⟨b0_, 0, none⟩)), (1, .int .i64 a1), (2, .int .i64 a2)]) Tryz.func18 rfl Tryz.ntmps18 rfl ⟨rfl, rfl, rfl, trivial⟩ (fun w0 A => ?_)
  refine cj_seq ?_
  refine cj_reg ?_
  refine lp rfl (p_as rfl) ?_
  refine lj_seq ?_
  refine cj_seq ?_
  refine cj_seq ?_
  refine cj_reg ?_
  refine lp rfl (p_mv rfl) ?_
  obtain ⟨y1, hy1, hm⟩ := bindS hm
  refine r_call [0] cf17 rfl rfl (ok_gleemake_Stream_Flip b0_ s0_0_ a0_0 a0_1 12 hy1) rfl rfl (.cons (.ro 0 rfl) .nil) (fun _ => rfl) rfl (fun _ => ?_)
  refine lj_seq ?_
  refine cj_if (b := y1.1) rfl (fun hb => ?_) (fun hb => ?_)
  · have hm := ifB_t hb hm
    refine cj_seq ?_
    refine cj_reg ?_
    refine lp rfl (p_mv rfl) ?_
    refine lp rfl (p_mv rfl) ?_
    refine lp rfl (p_sub rfl rfl) ?_
    refine lp rfl (p_mv rfl) ?_
    refine lp rfl (p_add rfl rfl) ?_
    refine lp rfl (p_mv rfl) ?_
    refine lp rfl (p_mv rfl) ?_
    refine r_bs R3 [w64 (a1 - 1), w64 (a2 + 1), a1, a2, (-1099511627776), 1099511627776] rfl rfl rfl (fun _ => by kernel_rfl) rfl (fun s2 => ?_)
    obtain ⟨y3, hy3, hm⟩ := bindS hm
    refine r_call [1] cf19 rfl rfl (ok_gleemake_Stream_Pick b0_ s0_0_ a0_0 y1.2 s2 [w64 (a1 - 1), w64 (a2 + 1), a1, a2, (-1099511627776), 1099511627776] hy3) rfl rfl (.cons (.ro 1 rfl) (.cons (.row 0 rfl) .nil)) (fun _ => rfl) rfl (fun _ => ?_)
    refine lp rfl (p_as rfl) ?_
    refine lj_seq ?_
    obtain rfl := Option.some.inj hm
    exact cj_rt () [0] Tryz.results18 (.tmp rfl .nil) rfl rfl
  · have hm := ifB_f hb hm
    refine cj_skip ?_
    refine nj_seq ?_
    refine cj_seq ?_
    refine cj_reg ?_
    refine lp rfl (p_mv rfl) ?_
    refine lp rfl (p_mv rfl) ?_
    refine lp rfl (p_mv rfl) ?_
    obtain ⟨y4, hy4, hm⟩ := bindS hm
    refine r_call [0] cf12 rfl rfl (ok_gleemake_Stream_Range b0_ s0_0_ a0_0 y1.2 a1 a2 hy4) rfl rfl (.cons (.ro 0 rfl) .nil) (fun _ => rfl) rfl (fun _ => ?_)
    refine lp rfl (p_as rfl) ?_
    refine lj_seq ?_
    obtain rfl := Option.some.inj hm
    exact cj_rt () [0] Tryz.results18 (.tmp rfl .nil) rfl rfl
theorem ok_gleemake_Stream_AChord (b0_ : Nat) (s0_0_ : SV) (a0_0 : (List Int)) (a0_1 : Int) {r : TChord × Int} (hm : m_gleemake_Stream_AChord a0_0 a0_1 = some r) :
    Ctr Tryz.prog 4 [.pointer (some ⟨b0_, 0, none⟩)].toArray [.box b0_ 25 [s0_0_.v, .int .i64 a0_1]] [RdS R3 (SV.v s0_0_) a0_0] (X := Unit) (fun _ => .agg (R27.enc r.1).toArray) (fun _ => [.box b0_ 25 [s0_0_.v, .int .i64 r.2]]) := by
  unfold m_gleemake_Stream_AChord at hm
  refine ctr_mk (vs := [(0, .pointer (some ⟨b0_, 0, none⟩))]) Tryz.func4 rfl Tryz.ntmps4 rfl ⟨rfl, trivial⟩ (fun w0 A => ?_)
  refine cj_seq ?_
  refine cj_reg ?_
  refine r_al ty27 rfl (fun b1 => ?_)
  refine lj_seq ?_
  refine cj_seq ?_
  refine cj_seq ?_
  refine cj_reg ?_
  refine lp rfl (p_mv rfl) ?_
  obtain ⟨y2, hy2, hm⟩ := bindS hm
  refine r_call [1] cf17 rfl rfl (ok_gleemake_Stream_Flip b0_ s0_0_ a0_0 a0_1 40 hy2) rfl rfl (.cons (.ro 1 rfl) .nil) (fun _ => rfl) rfl (fun _ => ?_)
  refine lj_seq ?_
  refine cj_if (b := y2.1) rfl (fun hb => ?_) (fun hb => ?_)
  · have hm := ifB_t hb hm
    refine cj_seq ?_
    refine cj_reg ?_
    refine lp rfl (p_mv rfl) ?_
    obtain ⟨y3, hy3, hm⟩ := bindS hm
    refine r_call [0] cf18 rfl rfl (ok_gleemake_Stream_Odd b0_ s0_0_ a0_0 y2.2 0 11 hy3) rfl rfl (.cons (.ro 1 rfl) .nil) (fun _ => rfl) rfl (fun _ => ?_)
    refine lp rfl (p_mv rfl) ?_
    obtain ⟨y4, hy4, hm⟩ := bindS hm
    refine r_call [0] cf18 rfl rfl (ok_gleemake_Stream_Odd b0_ s0_0_ a0_0 y3.2 1 7 hy4) rfl rfl (.cons (.ro 1 rfl) .nil) (fun _ => rfl) rfl (fun _ => ?_)
    refine lp rfl (p_mv rfl) ?_
    obtain ⟨y5, hy5, hm⟩ := bindS hm
    refine r_call [0] cf18 rfl rfl (ok_gleemake_Stream_Odd b0_ s0_0_ a0_0 y4.2 0 3 hy5) rfl rfl (.cons (.ro 1 rfl) .nil) (fun _ => rfl) rfl (fun _ => ?_)
    refine lp rfl (p_bld [.int .i64 y3.1, .int .i64 y4.1, .int .i64 y5.1] rfl (fun _ => by kernel_rfl)) ?_
    refine r_sb (vs := [.int .i64 y3.1, .int .i64 y4.1, .int .i64 y5.1]) (j := 1) ty27 rfl rfl rfl rfl rfl rfl rfl ?_
    refine lj_seq ?_
    obtain rfl := Option.some.inj hm
    exact cj_rt () [0] Tryz.results4 (.agg (k := 1) ty27 rfl rfl rfl .nil) rfl rfl
  · have hm := ifB_f hb hm
    refine cj_skip ?_
    refine nj_seq ?_
    refine cj_seq ?_
    refine cj_reg ?_
    refine lp rfl (p_mv rfl) ?_
    obtain ⟨y6, hy6, hm⟩ := bindS hm
    refine r_call [0] cf12 rfl rfl (ok_gleemake_Stream_Range b0_ s0_0_ a0_0 y2.2 0 11 hy6) rfl rfl (.cons (.ro 1 rfl) .nil) (fun _ => rfl) rfl (fun _ => ?_)
    refine lp rfl (p_mv rfl) ?_
    obtain ⟨y7, hy7, hm⟩ := bindS hm
    refine r_call [0] cf12 rfl rfl (ok_gleemake_Stream_Range b0_ s0_0_ a0_0 y6.2 1 7 hy7) rfl rfl (.cons (.ro 1 rfl) .nil) (fun _ => rfl) rfl (fun _ => ?_)
    refine lp rfl (p_mv rfl) ?_
    refine r_bs R3 [0, 0, 0, 1, 2] rfl rfl rfl (fun _ => by kernel_rfl) rfl (fun s8 => ?_)
    obtain ⟨y9, hy9, hm⟩ := bindS hm
    refine r_call [1] cf19 rfl rfl (ok_gleemake_Stream_Pick b0_ s0_0_ a0_0 y7.2 s8 [0, 0, 0, 1, 2] hy9) rfl rfl (.cons (.ro 2 rfl) (.cons (.row 0 rfl) .nil)) (fun _ => rfl) rfl (fun _ => ?_)
    refine lp rfl (p_bld [.int .i64 y6.1, .int .i64 y7.1, .int .i64 y9.1] rfl (fun _ => by kernel_rfl)) ?_
    refine r_sb (vs := [.int .i64 y6.1, .int .i64 y7.1, .int .i64 y9.1]) (j := 2) ty27 rfl rfl rfl rfl rfl rfl rfl ?_
    refine lj_seq ?_
    obtain rfl := Option.some.inj hm
    exact cj_rt () [0] Tryz.results4 (.agg (k := 2) ty27 rfl rfl rfl .nil) rfl rfl
theorem ok_gleeref2_in (a0 : Int) (a1 : Int) (a2 : Int) {r : Bool} (hm : m_gleeref2_in a0 a1 a2 = some r) :
    Ctr Tryz.prog 20 [.int .i64 a0, .int .i64 a1, .int .i64 a2].toArray ([] : List Ent) [] (X := Unit) (fun _ => .bool r) (fun _ => []) := by
  unfold m_gleeref2_in at hm
  refine ctr_mk (vs := [(0, .int .i64 a0), (1, .int .i64 a1), (2, .int .i64 a2)]) Tryz.func20 rfl Tryz.ntmps20 rfl ⟨rfl, rfl, rfl, trivial⟩ (fun w0 A => ?_)
  refine cj_seq ?_
  refine cj_reg ?_
  refine lp rfl (p_as rfl) ?_
  refine lj_seq ?_
  refine cj_seq ?_
  refine cj_reg ?_
  refine lp rfl (p_mv rfl) ?_
  refine lp rfl (p_mv rfl) ?_
  refine lp rfl (p_leq rfl rfl) ?_
  refine lp rfl (p_mv rfl) ?_
  refine lcase (i := 10) (decide (a1 ≤ a0)) rfl (fun hb => ?_) (fun hb => ?_)
  · have hm := ifB_t hb hm
    refine lg true rfl rfl rfl ?_
    refine lp rfl (p_mv rfl) ?_
    refine lg true rfl rfl rfl ?_
    refine lp rfl (p_mv rfl) ?_
    refine lg true rfl rfl rfl ?_
    refine lp rfl (p_leq rfl rfl) ?_
    refine lp rfl (p_pkt rfl rfl) ?_
    refine lp rfl (p_as rfl) ?_
    refine lj_seq ?_
    obtain rfl := Option.some.inj hm
    exact cj_rt () [] Tryz.results20 (.tmp rfl .nil) rfl rfl
  · have hm := ifB_f hb hm
    refine ls true rfl rfl rfl rfl ?_
    refine ls true rfl rfl rfl rfl ?_
    refine ls true rfl rfl rfl rfl ?_
    refine lp rfl (p_pkf rfl rfl) ?_
    refine lp rfl (p_as rfl) ?_
    refine lj_seq ?_
    obtain rfl := Option.some.inj hm
    exact cj_rt () [] Tryz.results20 (.tmp rfl .nil) rfl rfl
theorem ok_gleeref2_kindTones (a0 : Int) {r : (List Int)} (hm : m_gleeref2_kindTones a0 = some r) :
    Ctr Tryz.prog 21 [.int .i64 a0].toArray ([] : List Ent) [] (X := SV) (fun s => s.v) (fun s => [.ro (RdS R3 (SV.v s) r)]) := by
  unfold m_gleeref2_kindTones at hm
  refine ctr_mk (vs := [(0, .int .i64 a0)]) Tryz.func21 rfl Tryz.ntmps21 rfl ⟨rfl, trivial⟩ (fun w0 A => ?_)
  refine cj_seq ?_
  refine cj_reg ?_
  refine lp rfl (p_as rfl) ?_
  refine lj_seq ?_
  refine cj_seq ?_
  refine cj_reg ?_
  refine r_bs R3 [0, 4, 7] rfl rfl rfl (fun _ => by kernel_rfl) rfl (fun s1 => ?_)
  refine r_bs R3 [0, 3, 7] rfl rfl rfl (fun _ => by kernel_rfl) rfl (fun s2 => ?_)
  refine r_bs R3 [0, 3, 6] rfl rfl rfl (fun _ => by kernel_rfl) rfl (fun s3 => ?_)
  refine r_bs R3 [0, 4, 8] rfl rfl rfl (fun _ => by kernel_rfl) rfl (fun s4 => ?_)
  refine r_bs R3 [0, 4, 7, 10] rfl rfl rfl (fun _ => by kernel_rfl) rfl (fun s5 => ?_)
  refine r_bs R3 [0, 4, 7, 11] rfl rfl rfl (fun _ => by kernel_rfl) rfl (fun s6 => ?_)
  refine r_bs R3 [0, 3, 7, 10] rfl rfl rfl (fun _ => by kernel_rfl) rfl (fun s7 => ?_)
  refine r_fz 6 rfl ?_
  refine r_fz 6 rfl ?_
  refine r_fz 6 rfl ?_
  refine r_fz 6 rfl ?_
  refine r_fz 6 rfl ?_
  refine r_fz 6 rfl ?_
  refine r_fz 6 rfl ?_
  refine r_fact (F := Lk N22 [[], [0, 4, 7], [0, 3, 7], [0, 3, 6], [0, 4, 8], [0, 4, 7, 10], [0, 4, 7, 11], [0, 3, 7, 10]] [([], nilS), ([0, 4, 7], s1), ([0, 3, 7], s2), ([0, 3, 6], s3), ([0, 4, 8], s4), ([0, 4, 7, 10], s5), ([0, 4, 7, 11], s6), ([0, 3, 7, 10], s7)]) (.imp (.and (.nilS R3) (.imp (.and (.ro 6 rfl) (.imp (.and (.ro 5 rfl) (.imp (.and (.ro 4 rfl) (.imp (.and (.ro 3 rfl) (.imp (.and (.ro 2 rfl) (.imp (.and (.ro 1 rfl) (.imp (.and (.ro 0 rfl) (.nilL N22)) (fun _ h => Lk.cons h.1 h.2))) (fun _ h => Lk.cons h.1 h.2))) (fun _ h => Lk.cons h.1 h.2))) (fun _ h => Lk.cons h.1 h.2))) (fun _ h => Lk.cons h.1 h.2))) (fun _ h => Lk.cons h.1 h.2))) (fun _ h => Lk.cons h.1 h.2))) (fun _ h => Lk.cons h.1 h.2)) ?_
  have hLs8 : (([([], nilS), ([0, 4, 7], s1), ([0, 3, 7], s2), ([0, 3, 6], s3), ([0, 4, 8], s4), ([0, 4, 7, 10], s5), ([0, 4, 7, 11], s6), ([0, 3, 7, 10], s7)] : List ((List Int) × SV)).map Prod.fst) = ([[], [0, 4, 7], [0, 3, 7], [0, 3, 6], [0, 4, 8], [0, 4, 7, 10], [0, 4, 7, 11], [0, 3, 7, 10]] : List (List Int)) := rfl
  refine r_bs N22.R [([], nilS), ([0, 4, 7], s1), ([0, 3, 7], s2), ([0, 3, 6], s3), ([0, 4, 8], s4), ([0, 4, 7, 10], s5), ([0, 4, 7, 11], s6), ([0, 3, 7, 10], s7)] rfl rfl rfl (fun _ => by kernel_rfl) rfl (fun s8 => ?_)
  refine lp rfl (p_mv rfl) ?_
  obtain ⟨e12, he12, hm⟩ := bindS hm
  obtain ⟨ge12, he12G⟩ := lk_getI hLs8 he12
  refine lp rfl (p_idx Tryz.underlying90 ty22 rfl rfl (.row 0 rfl) he12G) ?_
  refine lp rfl (p_lde (o := 0) ty22 rfl rfl (.row 0 rfl) (getI_spec he12G).2 rfl) ?_
  refine lp rfl (p_as rfl) ?_
  refine lj_seq ?_
  obtain rfl := Option.some.inj hm
  refine cj_fact (F := RdS R3 (SV.v ge12) e12) (.imp (.ro 1 rfl) (fun _ h => (Lk.at_ h (getI_spec he12G).2))) ?_
  exact cj_rt ge12 [0] Tryz.results21 (.tmp rfl .nil) rfl rfl
theorem ok_gleeref2_ChordFault (a0 : TChord) {r : Int} (hm : m_gleeref2_ChordFault a0 = some r) :
    Ctr Tryz.prog 5 [.agg (R27.enc a0).toArray].toArray ([] : List Ent) [] (X := Unit) (fun _ => .int .i64 r) (fun _ => []) := by
  unfold m_gleeref2_ChordFault at hm
  refine ctr_mk (vs := [(0, .agg (R27.enc a0).toArray)]) Tryz.func5 rfl Tryz.ntmps5 rfl ⟨rfl, trivial⟩ (fun w0 A => ?_)
  refine cj_seq ?_
  refine cj_reg ?_
  refine r_bx (cs := [.int .i64 a0.Root, .int .i64 a0.Kind, .int .i64 a0.Turn]) rfl rfl rfl (fun b1 => ?_)
  refine lp rfl (p_as rfl) ?_
  refine lj_seq ?_
  refine cj_seq ?_
  refine cj_blk ?_
  refine cj_seq ?_
  refine cj_reg ?_
  refine lp rfl (p_fab fl27_0 rfl) ?_
  refine lp rfl (p_lbs ty3 rfl (j := 0) rfl rfl) ?_
  obtain ⟨y2, hy2, hm⟩ := bindS hm
  refine r_call [] cf20 rfl rfl (ok_gleeref2_in a0.Root 0 11 hy2) rfl rfl .nil (fun _ => rfl) rfl (fun _ => ?_)
  refine lp rfl (p_not rfl) ?_
  refine lp rfl (p_as rfl) ?_
  refine lj_seq ?_
  refine cj_if (b := !y2) rfl (fun hb => ?_) (fun hb => ?_)
  · have hm := ifB_t hb hm
    refine cj_seq ?_
    refine cj_reg ?_
    refine lp rfl (p_as rfl) ?_
    refine lj_seq ?_
    obtain rfl := Option.some.inj hm
    exact cj_rt () [] Tryz.results5 (.tmp rfl .nil) rfl rfl
  · have hm := ifB_f hb hm
    refine cj_seq ?_
    refine cj_reg ?_
    refine lp rfl (p_fab fl27_1 rfl) ?_
    refine lp rfl (p_lbs ty3 rfl (j := 0) rfl rfl) ?_
    obtain ⟨y3, hy3, hm⟩ := bindS hm
    refine r_call [] cf20 rfl rfl (ok_gleeref2_in a0.Kind 1 7 hy3) rfl rfl .nil (fun _ => rfl) rfl (fun _ => ?_)
    refine lp rfl (p_not rfl) ?_
    refine lp rfl (p_as rfl) ?_
    refine lj_seq ?_
    refine cj_if (b := !y3) rfl (fun hb => ?_) (fun hb => ?_)
    · have hm := ifB_t hb hm
      refine cj_seq ?_
      refine cj_reg ?_
      refine lp rfl (p_as rfl) ?_
      refine lj_seq ?_
      obtain rfl := Option.some.inj hm
      exact cj_rt () [] Tryz.results5 (.tmp rfl .nil) rfl rfl
    · have hm := ifB_f hb hm
      refine cj_seq ?_
      obtain ⟨y4, hy4, hm⟩ := bindS hm
      obtain ⟨y6, hy6, hm⟩ := bindS hm
      refine cj_anyT [0, 1, 2, 3, 6, 8, 9] [] (Sat w0 (keys ([] : List Ent)) A [.box b1 27 [.int .i64 a0.Root, .int .i64 a0.Kind, .int .i64 a0.Turn]]) (Sat w0 (keys ([] : List Ent)) A [.box b1 27 [.int .i64 a0.Root, .int .i64 a0.Kind, .int .i64 a0.Turn]]) (by kernel_rfl) ?_
      refine at_take2 0 rfl (by kernel_rfl) (by kernel_rfl) (by kernel_rfl) (fun _ h => h.picks [0] rfl) rfl rfl (p_fab fl27_2 rfl) (fun _ h => h.picks [0] rfl) ?_
      refine at_take2 1 rfl (by kernel_rfl) (by kernel_rfl) (by kernel_rfl) (fun _ h => h.picks [0] rfl) rfl rfl (p_lbs ty3 rfl (j := 0) rfl rfl) (fun _ h => h.picks [0] rfl) ?_
      refine at_take2 2 rfl (by kernel_rfl) (by kernel_rfl) (by kernel_rfl) (fun _ h => h.picks [0] rfl) rfl rfl (p_fab fl27_1 rfl) (fun _ h => h.picks [0] rfl) ?_
      refine at_take2 3 rfl (by kernel_rfl) (by kernel_rfl) (by kernel_rfl) (fun _ h => h.picks [0] rfl) rfl rfl (p_lbs ty3 rfl (j := 0) rfl rfl) (fun _ h => h.picks [0] rfl) ?_
      refine at_each (rs := [4]) (by kernel_rfl) (by decide) ?_
      refine (.cons rfl (fun I cnI => ?_) .nil)
      · refine r_callN [] cf21 rfl rfl (ok_gleeref2_kindTones a0.Kind hy4) rfl rfl .nil rfl (fun s7 => ?_)
        refine lj_nil ?_
        refine cnI _ _ (sof1 rfl rfl (fun _ h => h.picks [1] rfl)) ?_
        refine at_each (rs := [5]) (by kernel_rfl) (by decide) ?_
        refine (.cons rfl (fun I cnI => ?_) .nil)
        · refine lp rfl (p_len Tryz.underlying22 rfl (.ro 0 rfl)) ?_
          refine lj_nil ?_
          refine cnI _ _ (sof1 rfl rfl (fun _ h => h.picks [1] rfl)) ?_
          refine at_take2 6 rfl (by kernel_rfl) (by kernel_rfl) (by kernel_rfl) (fun _ h => h.picks [0] rfl) rfl rfl (p_sub rfl rfl) (fun _ h => h.picks [1] rfl) ?_
          refine at_each (rs := [7]) (by kernel_rfl) (by decide) ?_
          refine (.cons rfl (fun I cnI => ?_) .nil)
          · refine r_call [] cf20 rfl rfl (ok_gleeref2_in a0.Turn 0 (w64 ((y4.length : Int) - 1)) hy6) rfl rfl .nil (fun _ => rfl) rfl (fun _ => ?_)
            refine lj_nil ?_
            refine cnI _ _ (sof1 rfl rfl (fun _ h => h.picks [1] rfl)) ?_
            refine at_take2 8 rfl (by kernel_rfl) (by kernel_rfl) (by kernel_rfl) (fun _ h => h.picks [0] rfl) rfl rfl (p_not rfl) (fun _ h => h.picks [1] rfl) ?_
            refine at_take2 9 rfl (by kernel_rfl) (by kernel_rfl) (by kernel_rfl) (fun _ h => h.picks [0] rfl) rfl rfl (p_as rfl) (fun _ h => h.picks [1] rfl) ?_
            refine at_done (by kernel_rfl) ?_
            refine nj_seq ?_
            refine cj_if (b := !y6) rfl (fun hb => ?_) (fun hb => ?_)
            · have hm := ifB_t hb hm
              refine cj_seq ?_
              refine cj_reg ?_
              refine lp rfl (p_as rfl) ?_
              refine lj_seq ?_
              obtain rfl := Option.some.inj hm
              exact cj_rt () [] Tryz.results5 (.tmp rfl .nil) rfl rfl
            · have hm := ifB_f hb hm
              refine cj_skip ?_
              refine nj_blk ?_
              refine nj_seq ?_
              refine cj_seq ?_
              refine cj_reg ?_
              refine lp rfl (p_as rfl) ?_
              refine lj_seq ?_
              obtain rfl := Option.some.inj hm
              exact cj_rt () [] Tryz.results5 (.tmp rfl .nil) rfl rfl
theorem ok_kit_Outside (a0 : Int) (a1 : Int) (a2 : Int) {r : Bool} (hm : m_kit_Outside a0 a1 a2 = some r) :
    Ctr Tryz.prog 22 [.int .i64 a0, .int .i64 a1, .int .i64 a2].toArray ([] : List Ent) [] (X := Unit) (fun _ => .bool r) (fun _ => []) := by
  unfold m_kit_Outside at hm
  refine ctr_mk (vs := [(0, .int .i64 a0), (1, .int .i64 a1), (2, .int .i64 a2)]) Tryz.func22 rfl Tryz.ntmps22 rfl ⟨rfl, rfl, rfl, trivial⟩ (fun w0 A => ?_)
  refine cj_seq ?_
  refine cj_reg ?_
  refine lp rfl (p_as rfl) ?_
  refine lj_seq ?_
  refine cj_seq ?_
  refine cj_reg ?_
  refine lp rfl (p_mv rfl) ?_
  refine lp rfl (p_mv rfl) ?_
  refine lp rfl (p_lss rfl rfl) ?_
  refine lp rfl (p_mv rfl) ?_
  refine lcase (i := 10) (decide (a0 < a1)) rfl (fun hb => ?_) (fun hb => ?_)
  · have hm := ifB_t hb hm
    refine ls false rfl rfl rfl rfl ?_
    refine ls false rfl rfl rfl rfl ?_
    refine ls false rfl rfl rfl rfl ?_
    refine lp rfl (p_pkt rfl rfl) ?_
    refine lp rfl (p_as rfl) ?_
    refine lj_seq ?_
    obtain rfl := Option.some.inj hm
    exact cj_rt () [] Tryz.results22 (.tmp rfl .nil) rfl rfl
  · have hm := ifB_f hb hm
    refine lg false rfl rfl rfl ?_
    refine lp rfl (p_mv rfl) ?_
    refine lg false rfl rfl rfl ?_
    refine lp rfl (p_mv rfl) ?_
    refine lg false rfl rfl rfl ?_
    refine lp rfl (p_gtr rfl rfl) ?_
    refine lp rfl (p_pkf rfl rfl) ?_
    refine lp rfl (p_as rfl) ?_
    refine lj_seq ?_
    obtain rfl := Option.some.inj hm
    exact cj_rt () [] Tryz.results22 (.tmp rfl .nil) rfl rfl
theorem ok_chord_isKind (a0 : Int) {r : Bool} (hm : m_chord_isKind a0 = some r) :
    Ctr Tryz.prog 23 [.int .i64 a0].toArray ([] : List Ent) [] (X := Unit) (fun _ => .bool r) (fun _ => []) := by
  unfold m_chord_isKind at hm
  refine ctr_mk (vs := [(0, .int .i64 a0)]) Tryz.func23 rfl Tryz.ntmps23 rfl ⟨rfl, trivial⟩ (fun w0 A => ?_)
  refine cj_seq ?_
  refine cj_reg ?_
  refine lp rfl (p_as rfl) ?_
  refine lj_seq ?_
  refine cj_seq ?_
  refine cj_reg ?_
  refine lp rfl (p_mv rfl) ?_
  obtain ⟨y1, hy1, hm⟩ := bindS hm
  refine r_call [] cf22 rfl rfl (ok_kit_Outside a0 1 7 hy1) rfl rfl .nil (fun _ => rfl) rfl (fun _ => ?_)
  refine lp rfl (p_not rfl) ?_
  refine lp rfl (p_as rfl) ?_
  refine lj_seq ?_
  obtain rfl := Option.some.inj hm
  exact cj_rt () [] Tryz.results23 (.tmp rfl .nil) rfl rfl
theorem ok_chord_above (a0 : Int) {r : (List Int)} (hm : m_chord_above a0 = some r) :
    Ctr Tryz.prog 24 [.int .i64 a0].toArray ([] : List Ent) [] (X := SV) (fun s => s.v) (fun s => [.ro (RdS R3 (SV.v s) r)]) := by
  unfold m_chord_above at hm
  refine ctr_mk (vs := [(0, .int .i64 a0)]) Tryz.func24 rfl Tryz.ntmps24 rfl ⟨rfl, trivial⟩ (fun w0 A => ?_)
  refine cj_seq ?_
  refine cj_reg ?_
  refine lp rfl (p_as rfl) ?_
  refine lj_seq ?_
  refine cj_seq ?_
  refine cj_reg ?_
  refine r_bs R3 [0, 4, 7] rfl rfl rfl (fun _ => by kernel_rfl) rfl (fun s1 => ?_)
  refine r_bs R3 [0, 3, 7] rfl rfl rfl (fun _ => by kernel_rfl) rfl (fun s2 => ?_)
  refine r_bs R3 [0, 3, 6] rfl rfl rfl (fun _ => by kernel_rfl) rfl (fun s3 => ?_)
  refine r_bs R3 [0, 4, 8] rfl rfl rfl (fun _ => by kernel_rfl) rfl (fun s4 => ?_)
  refine r_bs R3 [0, 4, 7, 10] rfl rfl rfl (fun _ => by kernel_rfl) rfl (fun s5 => ?_)
  refine r_bs R3 [0, 4, 7, 11] rfl rfl rfl (fun _ => by kernel_rfl) rfl (fun s6 => ?_)
  refine r_bs R3 [0, 3, 7, 10] rfl rfl rfl (fun _ => by kernel_rfl) rfl (fun s7 => ?_)
  refine r_fz 6 rfl ?_
  refine r_fz 6 rfl ?_
  refine r_fz 6 rfl ?_
  refine r_fz 6 rfl ?_
  refine r_fz 6 rfl ?_
  refine r_fz 6 rfl ?_
  refine r_fz 6 rfl ?_
  refine r_fact (F := Lk N22 [[], [0, 4, 7], [0, 3, 7], [0, 3, 6], [0, 4, 8], [0, 4, 7, 10], [0, 4, 7, 11], [0, 3, 7, 10]] [([], nilS), ([0, 4, 7], s1), ([0, 3, 7], s2), ([0, 3, 6], s3), ([0, 4, 8], s4), ([0, 4, 7, 10], s5), ([0, 4, 7, 11], s6), ([0, 3, 7, 10], s7)]) (.imp (.and (.nilS R3) (.imp (.and (.ro 6 rfl) (.imp (.and (.ro 5 rfl) (.imp (.and (.ro 4 rfl) (.imp (.and (.ro 3 rfl) (.imp (.and (.ro 2 rfl) (.imp (.and (.ro 1 rfl) (.imp (.and (.ro 0 rfl) (.nilL N22)) (fun _ h => Lk.cons h.1 h.2))) (fun _ h => Lk.cons h.1 h.2))) (fun _ h => Lk.cons h.1 h.2))) (fun _ h => Lk.cons h.1 h.2))) (fun _ h => Lk.cons h.1 h.2))) (fun _ h => Lk.cons h.1 h.2))) (fun _ h => Lk.cons h.1 h.2))) (fun _ h => Lk.cons h.1 h.2)) ?_
  have hLs8 : (([([], nilS), ([0, 4, 7], s1), ([0, 3, 7], s2), ([0, 3, 6], s3), ([0, 4, 8], s4), ([0, 4, 7, 10], s5), ([0, 4, 7, 11], s6), ([0, 3, 7, 10], s7)] : List ((List Int) × SV)).map Prod.fst) = ([[], [0, 4, 7], [0, 3, 7], [0, 3, 6], [0, 4, 8], [0, 4, 7, 10], [0, 4, 7, 11], [0, 3, 7, 10]] : List (List Int)) := rfl
  refine r_bs N22.R [([], nilS), ([0, 4, 7], s1), ([0, 3, 7], s2), ([0, 3, 6], s3), ([0, 4, 8], s4), ([0, 4, 7, 10], s5), ([0, 4, 7, 11], s6), ([0, 3, 7, 10], s7)] rfl rfl rfl (fun _ => by kernel_rfl) rfl (fun s8 => ?_)
  refine lp rfl (p_mv rfl) ?_
  obtain ⟨e12, he12, hm⟩ := bindS hm
  obtain ⟨ge12, he12G⟩ := lk_getI hLs8 he12
  refine lp rfl (p_idx Tryz.underlying90 ty22 rfl rfl (.row 0 rfl) he12G) ?_
  refine lp rfl (p_lde (o := 0) ty22 rfl rfl (.row 0 rfl) (getI_spec he12G).2 rfl) ?_
  refine lp rfl (p_as rfl) ?_
  refine lj_seq ?_
  obtain rfl := Option.some.inj hm
  refine cj_fact (F := RdS R3 (SV.v ge12) e12) (.imp (.ro 1 rfl) (fun _ h => (Lk.at_ h (getI_spec he12G).2))) ?_
  exact cj_rt ge12 [0] Tryz.results24 (.tmp rfl .nil) rfl rfl
theorem ok_chord_CheckChord (a0 : TChord) {r : Int} (hm : m_chord_CheckChord a0 = some r) :
    Ctr Tryz.prog 6 [.agg (R27.enc a0).toArray].toArray ([] : List Ent) [] (X := Unit) (fun _ => .int .i64 r) (fun _ => []) := by
  unfold m_chord_CheckChord at hm
  refine ctr_mk (vs := [(0, .agg (R27.enc a0).toArray)]) Tryz.func6 rfl Tryz.ntmps6 rfl ⟨rfl, trivial⟩ (fun w0 A => ?_)
  refine cj_seq ?_
  refine cj_reg ?_
  refine r_bx (cs := [.int .i64 a0.Root, .int .i64 a0.Kind, .int .i64 a0.Turn]) rfl rfl rfl (fun b1 => ?_)
  refine lp rfl (p_as rfl) ?_
  refine lj_seq ?_
  refine cj_seq ?_
  refine cj_seq ?_
  refine cj_reg ?_
  refine lp rfl (p_fab fl27_0 rfl) ?_
  refine lp rfl (p_lbs ty3 rfl (j := 0) rfl rfl) ?_
  obtain ⟨y2, hy2, hm⟩ := bindS hm
  refine r_call [] cf22 rfl rfl (ok_kit_Outside a0.Root 0 11 hy2) rfl rfl .nil (fun _ => rfl) rfl (fun _ => ?_)
  refine lj_seq ?_
  refine cj_if (b := y2) rfl (fun hb => ?_) (fun hb => ?_)
  · have hm := ifB_t hb hm
    refine cj_seq ?_
    refine cj_reg ?_
    refine lp rfl (p_as rfl) ?_
    refine lj_seq ?_
    obtain rfl := Option.some.inj hm
    exact cj_rt () [] Tryz.results6 (.tmp rfl .nil) rfl rfl
  · have hm := ifB_f hb hm
    refine cj_skip ?_
    refine nj_seq ?_
    refine cj_seq ?_
    refine cj_seq ?_
    refine cj_reg ?_
    refine lp rfl (p_fab fl27_1 rfl) ?_
    refine lp rfl (p_lbs ty3 rfl (j := 0) rfl rfl) ?_
    obtain ⟨y3, hy3, hm⟩ := bindS hm
    refine r_call [] cf23 rfl rfl (ok_chord_isKind a0.Kind hy3) rfl rfl .nil (fun _ => rfl) rfl (fun _ => ?_)
    refine lp rfl (p_not rfl) ?_
    refine lj_seq ?_
    refine cj_if (b := !y3) rfl (fun hb => ?_) (fun hb => ?_)
    · have hm := ifB_t hb hm
      refine cj_seq ?_
      refine cj_reg ?_
      refine lp rfl (p_as rfl) ?_
      refine lj_seq ?_
      obtain rfl := Option.some.inj hm
      exact cj_rt () [] Tryz.results6 (.tmp rfl .nil) rfl rfl
    · have hm := ifB_f hb hm
      refine cj_skip ?_
      refine nj_seq ?_
      refine cj_seq ?_
      refine cj_seq ?_
      obtain ⟨y4, hy4, hm⟩ := bindS hm
      obtain ⟨y6, hy6, hm⟩ := bindS hm
      refine cj_anyT [0, 1, 2, 3, 6] [] (Sat w0 (keys ([] : List Ent)) A [.box b1 27 [.int .i64 a0.Root, .int .i64 a0.Kind, .int .i64 a0.Turn]]) (Sat w0 (keys ([] : List Ent)) A [.box b1 27 [.int .i64 a0.Root, .int .i64 a0.Kind, .int .i64 a0.Turn]]) (by kernel_rfl) ?_
      refine at_take2 0 rfl (by kernel_rfl) (by kernel_rfl) (by kernel_rfl) (fun _ h => h.picks [0] rfl) rfl rfl (p_fab fl27_2 rfl) (fun _ h => h.picks [0] rfl) ?_
      refine at_take2 1 rfl (by kernel_rfl) (by kernel_rfl) (by kernel_rfl) (fun _ h => h.picks [0] rfl) rfl rfl (p_lbs ty3 rfl (j := 0) rfl rfl) (fun _ h => h.picks [0] rfl) ?_
      refine at_take2 2 rfl (by kernel_rfl) (by kernel_rfl) (by kernel_rfl) (fun _ h => h.picks [0] rfl) rfl rfl (p_fab fl27_1 rfl) (fun _ h => h.picks [0] rfl) ?_
      refine at_take2 3 rfl (by kernel_rfl) (by kernel_rfl) (by kernel_rfl) (fun _ h => h.picks [0] rfl) rfl rfl (p_lbs ty3 rfl (j := 0) rfl rfl) (fun _ h => h.picks [0] rfl) ?_
      refine at_each (rs := [4]) (by kernel_rfl) (by decide) ?_
      refine (.cons rfl (fun I cnI => ?_) .nil)
      · refine r_callN [] cf24 rfl rfl (ok_chord_above a0.Kind hy4) rfl rfl .nil rfl (fun s7 => ?_)
        refine lj_nil ?_
        refine cnI _ _ (sof1 rfl rfl (fun _ h => h.picks [1] rfl)) ?_
        refine at_each (rs := [5]) (by kernel_rfl) (by decide) ?_
        refine (.cons rfl (fun I cnI => ?_) .nil)
        · refine lp rfl (p_len Tryz.underlying22 rfl (.ro 0 rfl)) ?_
          refine lj_nil ?_
          refine cnI _ _ (sof1 rfl rfl (fun _ h => h.picks [1] rfl)) ?_
          refine at_take2 6 rfl (by kernel_rfl) (by kernel_rfl) (by kernel_rfl) (fun _ h => h.picks [0] rfl) rfl rfl (p_sub rfl rfl) (fun _ h => h.picks [1] rfl) ?_
          refine at_each (rs := [7]) (by kernel_rfl) (by decide) ?_
          refine (.cons rfl (fun I cnI => ?_) .nil)
          · refine r_call [] cf22 rfl rfl (ok_kit_Outside a0.Turn 0 (w64 ((y4.length : Int) - 1)) hy6) rfl rfl .nil (fun _ => rfl) rfl (fun _ => ?_)
            refine lj_nil ?_
            refine cnI _ _ (sof1 rfl rfl (fun _ h => h.picks [1] rfl)) ?_
            refine at_done (by kernel_rfl) ?_
            refine nj_seq ?_
            refine cj_if (b := y6) rfl (fun hb => ?_) (fun hb => ?_)
            · have hm := ifB_t hb hm
              refine cj_seq ?_
              refine cj_reg ?_
              refine lp rfl (p_as rfl) ?_
              refine lj_seq ?_
              obtain rfl := Option.some.inj hm
              exact cj_rt () [] Tryz.results6 (.tmp rfl .nil) rfl rfl
            · have hm := ifB_f hb hm
              refine cj_skip ?_
              refine nj_seq ?_
              refine cj_seq ?_
              refine cj_reg ?_
              refine lp rfl (p_as rfl) ?_
              refine lj_seq ?_
              obtain rfl := Option.some.inj hm
              exact cj_rt () [] Tryz.results6 (.tmp rfl .nil) rfl rfl
theorem ok_slices_Index_int_int (s0_ : SV) (a0 : (List Int)) (a1 : Int) {r : Int} (hm : m_slices_Index_int_int a0 a1 = some r) :
    Ctr Tryz.prog 41 [s0_.v, .int .i64 a1].toArray ([] : List Ent) [RdS R3 (SV.v s0_) a0] (X := Unit) (fun _ => .int .i64 r) (fun _ => []) := by
  unfold m_slices_Index_int_int at hm
  refine ctr_mk (vs := [(0, s0_.v), (1, .int .i64 a1)]) Tryz.func41 rfl Tryz.ntmps41 rfl ⟨rfl, rfl, trivial⟩ (fun w0 A => ?_)
  refine cj_seq ?_
  refine cj_reg ?_
  refine lp rfl (p_as rfl) ?_
  refine lj_seq ?_
  refine cj_seq ?_
  refine cj_seq ?_
  refine cj_reg ?_
  refine lp rfl (p_mv rfl) ?_
  refine lp rfl (p_len Tryz.underlying22 rfl (.ro 0 rfl)) ?_
  refine lp rfl (p_mv rfl) ?_
  refine lj_seq ?_
  obtain ⟨f7, hf7, hm⟩ := bindS hm
  refine cj_range (γ := Unit) (m := (a0.length : Int)) hf7 () (fun u4 g5 => [(0, s0_.v), (1, .int .i64 a1), (4, .int .i64 0)]) (fun u4 g5 => Sat w0 (keys ([] : List Ent)) A [.ro (RdS R3 (SV.v s0_) a0)]) ⟨rfl, rfl, rfl, rfl, rfl, trivial⟩ (fun _ h => h.picks [0] rfl) (nat_lt _) (fun _ h => (FactAt.get (F := RdS R3 (SV.v s0_) a0) (.ro 0 rfl) h).1) (fun _ _ => ⟨rfl, rfl, rfl, rfl⟩) ⟨rfl, rfl, rfl, rfl, rfl⟩ rfl rfl rfl (fun u4 g5 e => ?_) (fun aftk6 i1 x2 u4 g5 k6 hx3 hs J hJk6 hBk6 hX I cnk6 => ?_)
  · have hm := Flow.fin_b e hm
    refine nj_seq ?_
    refine cj_seq ?_
    refine cj_reg ?_
    refine lp rfl (p_as rfl) ?_
    refine lj_seq ?_
    obtain rfl := Option.some.inj hm
    exact cj_rt () [] Tryz.results41 (.tmp rfl .nil) rfl rfl
  · have hRk6 : ∀ t, k6 = .ret t → some t = some r := fun t e => by rw [hX t e] at hm; exact hm
    have hm := hs
    refine cj_seq ?_
    refine cj_reg ?_
    refine lp rfl (p_mv rfl) ?_
    refine lp rfl (p_as rfl) ?_
    refine lj_seq ?_
    refine cj_seq ?_
    refine cj_reg ?_
    refine lp rfl (p_mv rfl) ?_
    refine lp rfl (p_mv rfl) ?_
    refine lp rfl (p_mv rfl) ?_
    refine lp rfl (p_idx Tryz.underlying22 ty3 rfl rfl (.ro 0 rfl) (getI_nat.trans hx3)) ?_
    refine lp rfl (p_lde (o := 0) ty3 rfl rfl (.ro 0 rfl) hx3 rfl) ?_
    refine lp rfl (p_eql rfl rfl) ?_
    refine lj_seq ?_
    refine cj_if (b := a1 == x2) rfl (fun hb => ?_) (fun hb => ?_)
    · have hm := ifB_t hb hm
      refine cj_seq ?_
      refine cj_reg ?_
      refine lp rfl (p_mv rfl) ?_
      refine lp rfl (p_as rfl) ?_
      refine lj_seq ?_
      have hm := hRk6 _ (Option.some.inj hm).symm
      obtain rfl := Option.some.inj hm
      exact cj_rt () [] Tryz.results41 (.tmp rfl .nil) rfl rfl
    · have hm := ifB_f hb hm
      refine cj_skip ?_
      refine nj_blk ?_
      exact cnk6 _ _ () () (hJk6 _ (Option.some.inj hm).symm) ⟨rfl, rfl, rfl, rfl, rfl, trivial⟩ (fun _ h => h.picks [0] rfl)
theorem ok_slices_Contains_int_int (s0_ : SV) (a0 : (List Int)) (a1 : Int) {r : Bool} (hm : m_slices_Contains_int_int a0 a1 = some r) :
    Ctr Tryz.prog 180 [s0_.v, .int .i64 a1].toArray ([] : List Ent) [RdS R3 (SV.v s0_) a0] (X := Unit) (fun _ => .bool r) (fun _ => []) := by
  unfold m_slices_Contains_int_int at hm
  refine ctr_mk (vs := [(0, s0_.v), (1, .int .i64 a1)]) Tryz.func180 rfl Tryz.ntmps180 rfl ⟨rfl, rfl, trivial⟩ (fun w0 A => ?_)
  refine cj_seq ?_
  refine cj_reg ?_
  refine lp rfl (p_as rfl) ?_
  refine lj_seq ?_
  refine cj_seq ?_
  refine cj_reg ?_
  refine lp rfl (p_mv rfl) ?_
  refine lp rfl (p_mv rfl) ?_
  obtain ⟨y1, hy1, hm⟩ := bindS hm
  refine r_call [] cf41 rfl rfl (ok_slices_Index_int_int s0_ a0 a1 hy1) rfl rfl (.cons (.ro 0 rfl) .nil) (fun _ => rfl) rfl (fun _ => ?_)
  refine lp rfl (p_geq rfl rfl) ?_
  refine lp rfl (p_as rfl) ?_
  refine lj_seq ?_
  obtain rfl := Option.some.inj hm
  exact cj_rt () [] Tryz.results180 (.tmp rfl .nil) rfl rfl
theorem ok_piece_isUnit (a0 : Int) {r : Bool} (hm : m_piece_isUnit a0 = some r) :
    Ctr Tryz.prog 145 [.int .i64 a0].toArray ([] : List Ent) [] (X := Unit) (fun _ => .bool r) (fun _ => []) := by
  unfold m_piece_isUnit at hm
  refine ctr_mk (vs := [(0, .int .i64 a0)]) Tryz.func145 rfl Tryz.ntmps145 rfl ⟨rfl, trivial⟩ (fun w0 A => ?_)
  refine cj_seq ?_
  refine cj_reg ?_
  refine lp rfl (p_as rfl) ?_
  refine lj_seq ?_
  refine cj_seq ?_
  refine cj_reg ?_
  refine r_bs R3 [1, 2, 4, 8, 16] rfl rfl rfl (fun _ => by kernel_rfl) rfl (fun s1 => ?_)
  refine lp rfl (p_mv rfl) ?_
  obtain ⟨y2, hy2, hm⟩ := bindS hm
  refine r_call [] cf180 rfl rfl (ok_slices_Contains_int_int s1 [1, 2, 4, 8, 16] a0 hy2) rfl rfl (.cons (.row 0 rfl) .nil) (fun _ => rfl) rfl (fun _ => ?_)
  refine lp rfl (p_as rfl) ?_
  refine lj_seq ?_
  obtain rfl := Option.some.inj hm
  exact cj_rt () [] Tryz.results145 (.tmp rfl .nil) rfl rfl
theorem ok_piece_barFault (a0 : TBar) {r : Int} (hm : m_piece_barFault a0 = some r) :
    Ctr Tryz.prog 99 [.agg (R54.enc a0).toArray].toArray ([] : List Ent) [] (X := Unit) (fun _ => .int .i64 r) (fun _ => []) := by
  unfold m_piece_barFault at hm
  refine ctr_mk (vs := [(0, .agg (R54.enc a0).toArray)]) Tryz.func99 rfl Tryz.ntmps99 rfl ⟨rfl, trivial⟩ (fun w0 A => ?_)
  refine cj_seq ?_
  refine cj_reg ?_
  refine r_bx (cs := [.int .i64 a0.Beats, .int .i64 a0.Unit, .int .i64 a0.Close, .int .i64 a0.Ending, .bool a0.Open]) rfl rfl rfl (fun b1 => ?_)
  refine lp rfl (p_as rfl) ?_
  refine lj_seq ?_
  refine cj_seq ?_
  refine cj_seq ?_
  refine cj_reg ?_
  obtain ⟨k4, hk4, hm⟩ := bindS hm
  have hRk4 : ∀ t, k4 = .inr t → some t = some r := fun t e => by rw [e] at hm; exact hm
  refine lj_join (σ := Bool) (γ := Unit) (fun u2 => k4 = .inl u2) (fun u2 g3 => [(2, .int .i64 0), (26, .bool u2)]) (fun u2 g3 => Sat w0 (keys ([] : List Ent)) A []) (fun u2 g3 hq => ?_) (fun J cnk4 => ?_)
  · have hm := Sum.fin_l hq hm
    refine cj_if (b := u2) rfl (fun hb => ?_) (fun hb => ?_)
    · have hm := ifB_t hb hm
      refine cj_seq ?_
      refine cj_reg ?_
      refine lp rfl (p_as rfl) ?_
      refine lj_seq ?_
      obtain rfl := Option.some.inj hm
      exact cj_rt () [] Tryz.results99 (.tmp rfl .nil) rfl rfl
    · have hm := ifB_f hb hm
      refine cj_skip ?_
      refine nj_seq ?_
      refine cj_seq ?_
      refine cj_reg ?_
      refine lp rfl (p_as rfl) ?_
      refine lj_seq ?_
      obtain rfl := Option.some.inj hm
      exact cj_rt () [] Tryz.results99 (.tmp rfl .nil) rfl rfl
  · have hm := hk4
    refine lp rfl (p_fab fl54_0 rfl) ?_
    refine lp rfl (p_lbs ty3 rfl (j := 0) rfl rfl) ?_
    obtain ⟨y5, hy5, hm⟩ := bindS hm
    refine r_call [] cf22 rfl rfl (ok_kit_Outside a0.Beats 1 16 hy5) rfl rfl .nil (fun _ => rfl) rfl (fun _ => ?_)
    refine lp rfl (p_mv rfl) ?_
    refine lcase (i := 6) y5 rfl (fun hb => ?_) (fun hb => ?_)
    · have hm := ifB_t hb hm
      refine ls false rfl rfl rfl rfl ?_
      refine ls false rfl rfl rfl rfl ?_
      refine ls false rfl rfl rfl rfl ?_
      refine ls false rfl rfl rfl rfl ?_
      refine lp rfl (p_pkt rfl rfl) ?_
      refine lp rfl (p_mv rfl) ?_
      refine ls false rfl rfl rfl rfl ?_
      refine ls false rfl rfl rfl rfl ?_
      refine ls false rfl rfl rfl rfl ?_
      refine ls false rfl rfl rfl rfl ?_
      refine lsu rfl rfl rfl rfl ?_
      refine lsu rfl rfl rfl rfl ?_
      refine lsu rfl rfl rfl rfl ?_
      refine ls false rfl rfl rfl rfl ?_
      refine lp rfl (p_pkt rfl rfl) ?_
      refine lp rfl (p_mv rfl) ?_
      refine ls false rfl rfl rfl rfl ?_
      refine ls false rfl rfl rfl rfl ?_
      refine ls false rfl rfl rfl rfl ?_
      refine lp rfl (p_pkt rfl rfl) ?_
      refine lj_nil ?_
      exact cnk4 _ _ true () (Option.some.inj hm).symm ⟨rfl, rfl, trivial⟩ (fun _ h => h.picks [] rfl)
    · have hm := ifB_f hb hm
      refine lg false rfl rfl rfl ?_
      refine lp rfl (p_fab fl54_1 rfl) ?_
      refine lg false rfl rfl rfl ?_
      refine lp rfl (p_lbs ty3 rfl (j := 0) rfl rfl) ?_
      refine lg false rfl rfl rfl ?_
      obtain ⟨y6, hy6, hm⟩ := bindS hm
      refine r_call [] cf145 rfl rfl (ok_piece_isUnit a0.Unit hy6) rfl rfl .nil (fun _ => rfl) rfl (fun _ => ?_)
      refine lg false rfl rfl rfl ?_
      refine lp rfl (p_not rfl) ?_
      refine lp rfl (p_pkf rfl rfl) ?_
      refine lp rfl (p_mv rfl) ?_
      refine lcase (i := 12) (!y6) rfl (fun hb => ?_) (fun hb => ?_)
      · have hm := ifB_t hb hm
        refine ls false rfl rfl rfl rfl ?_
        refine ls false rfl rfl rfl rfl ?_
        refine ls false rfl rfl rfl rfl ?_
        refine ls false rfl rfl rfl rfl ?_
        refine lsu rfl rfl rfl rfl ?_
        refine lsu rfl rfl rfl rfl ?_
        refine lsu rfl rfl rfl rfl ?_
        refine ls false rfl rfl rfl rfl ?_
        refine lp rfl (p_pkt rfl rfl) ?_
        refine lp rfl (p_mv rfl) ?_
        refine ls false rfl rfl rfl rfl ?_
        refine ls false rfl rfl rfl rfl ?_
        refine ls false rfl rfl rfl rfl ?_
        refine lp rfl (p_pkt rfl rfl) ?_
        refine lj_nil ?_
        exact cnk4 _ _ true () (Option.some.inj hm).symm ⟨rfl, rfl, trivial⟩ (fun _ h => h.picks [] rfl)
      · have hm := ifB_f hb hm
        refine lg false rfl rfl rfl ?_
        refine lp rfl (p_fab fl54_2 rfl) ?_
        refine lg false rfl rfl rfl ?_
        refine lp rfl (p_lbs ty3 rfl (j := 0) rfl rfl) ?_
        refine lg false rfl rfl rfl ?_
        refine lp rfl (p_neq rfl rfl) ?_
        refine lg false rfl rfl rfl ?_
        refine lp rfl (p_mv rfl) ?_
        refine lcase (i := 16) (a0.Close != 0) rfl (fun hb => ?_) (fun hb => ?_)
        · have hm := ifB_t hb hm
          refine lg true rfl rfl rfl ?_
          refine lp rfl (p_fab fl54_2 rfl) ?_
          refine lg true rfl rfl rfl ?_
          refine lp rfl (p_lbs ty3 rfl (j := 0) rfl rfl) ?_
          refine lg true rfl rfl rfl ?_
          obtain ⟨y7, hy7, hm⟩ := bindS hm
          refine r_call [] cf22 rfl rfl (ok_kit_Outside a0.Close 2 9 hy7) rfl rfl .nil (fun _ => rfl) rfl (fun _ => ?_)
          refine lg false rfl rfl rfl ?_
          refine lp rfl (p_pkt rfl rfl) ?_
          refine lp rfl (p_pkf rfl rfl) ?_
          refine lp rfl (p_mv rfl) ?_
          refine lcase (i := 22) y7 rfl (fun hb => ?_) (fun hb => ?_)
          · have hm := ifB_t hb hm
            refine ls false rfl rfl rfl rfl ?_
            refine ls false rfl rfl rfl rfl ?_
            refine ls false rfl rfl rfl rfl ?_
            refine lp rfl (p_pkt rfl rfl) ?_
            refine lj_nil ?_
            exact cnk4 _ _ true () (Option.some.inj hm).symm ⟨rfl, rfl, trivial⟩ (fun _ h => h.picks [] rfl)
          · have hm := ifB_f hb hm
            refine lg false rfl rfl rfl ?_
            refine lp rfl (p_fab fl54_3 rfl) ?_
            refine lg false rfl rfl rfl ?_
            refine lp rfl (p_lbs ty3 rfl (j := 0) rfl rfl) ?_
            refine lg false rfl rfl rfl ?_
            obtain ⟨y8, hy8, hm⟩ := bindS hm
            refine r_call [] cf22 rfl rfl (ok_kit_Outside a0.Ending 0 9 hy8) rfl rfl .nil (fun _ => rfl) rfl (fun _ => ?_)
            refine lp rfl (p_pkf rfl rfl) ?_
            refine lj_nil ?_
            exact cnk4 _ _ y8 () (Option.some.inj hm).symm ⟨rfl, rfl, trivial⟩ (fun _ h => h.picks [] rfl)
        · have hm := ifB_f hb hm
          refine ls true rfl rfl rfl rfl ?_
          refine ls true rfl rfl rfl rfl ?_
          refine ls true rfl rfl rfl rfl ?_
          refine lg false rfl rfl rfl ?_
          refine lp rfl (p_pkf rfl rfl) ?_
          refine lp rfl (p_pkf rfl rfl) ?_
          refine lp rfl (p_mv rfl) ?_
          refine lg false rfl rfl rfl ?_
          refine lp rfl (p_fab fl54_3 rfl) ?_
          refine lg false rfl rfl rfl ?_
          refine lp rfl (p_lbs ty3 rfl (j := 0) rfl rfl) ?_
          refine lg false rfl rfl rfl ?_
          obtain ⟨y9, hy9, hm⟩ := bindS hm
          refine r_call [] cf22 rfl rfl (ok_kit_Outside a0.Ending 0 9 hy9) rfl rfl .nil (fun _ => rfl) rfl (fun _ => ?_)
          refine lp rfl (p_pkf rfl rfl) ?_
          refine lj_nil ?_
          exact cnk4 _ _ y9 () (Option.some.inj hm).symm ⟨rfl, rfl, trivial⟩ (fun _ h => h.picks [] rfl)
theorem ok_piece_rulesFault (s0_ : SV) (a0 : (List TBar)) {r : Int} (hm : m_piece_rulesFault a0 = some r) :
    Ctr Tryz.prog 68 [s0_.v].toArray ([] : List Ent) [RdS R54 (SV.v s0_) a0] (X := Unit) (fun _ => .int .i64 r) (fun _ => []) := by
  unfold m_piece_rulesFault at hm
  refine ctr_mk (vs := [(0, s0_.v)]) Tryz.func68 rfl Tryz.ntmps68 rfl ⟨rfl, trivial⟩ (fun w0 A => ?_)
  refine cj_seq ?_
  refine cj_reg ?_
  refine lp rfl (p_as rfl) ?_
  refine lj_seq ?_
  refine cj_seq ?_
  refine cj_reg ?_
  refine lp rfl (p_as rfl) ?_
  refine lj_seq ?_
  refine cj_seq ?_
  refine cj_seq ?_
  refine cj_reg ?_
  refine lp rfl (p_mv rfl) ?_
  refine lp rfl (p_len Tryz.underlying55 rfl (.ro 0 rfl)) ?_
  refine lp rfl (p_mv rfl) ?_
  refine lj_seq ?_
  obtain ⟨f7, hf7, hm⟩ := bindS hm
  refine cj_range (γ := Unit) (m := (a0.length : Int)) hf7 () (fun u4 g5 => [(0, s0_.v), (2, .int .i64 0), (3, .bool u4), (7, s0_.v)]) (fun u4 g5 => Sat w0 (keys ([] : List Ent)) A [.ro (RdS R54 (SV.v s0_) a0)]) ⟨rfl, rfl, rfl, rfl, rfl, rfl, trivial⟩ (fun _ h => h.picks [0] rfl) (nat_lt _) (fun _ h => (FactAt.get (F := RdS R54 (SV.v s0_) a0) (.ro 0 rfl) h).1) (fun _ _ => ⟨rfl, rfl, rfl, rfl⟩) ⟨rfl, rfl, rfl, rfl, rfl⟩ rfl rfl rfl (fun u4 g5 e => ?_) (fun aftk6 i1 x2 u4 g5 k6 hx3 hs J hJk6 hBk6 hX I cnk6 => ?_)
  · have hm := Flow.fin_b e hm
    refine nj_seq ?_
    refine cj_seq ?_
    refine cj_reg ?_
    refine lp rfl (p_as rfl) ?_
    refine lj_seq ?_
    obtain rfl := Option.some.inj hm
    exact cj_rt () [] Tryz.results68 (.tmp rfl .nil) rfl rfl
  · have hRk6 : ∀ t, k6 = .ret t → some t = some r := fun t e => by rw [hX t e] at hm; exact hm
    have hm := hs
    refine cj_seq ?_
    refine cj_reg ?_
    refine lp rfl (p_mv rfl) ?_
    refine lp rfl (p_idx Tryz.underlying55 ty54 rfl rfl (.ro 0 rfl) (getI_nat.trans hx3)) ?_
    refine lp rfl (p_lea ty54 rfl (.ro 0 rfl) hx3) ?_
    refine r_al ty54 rfl (fun b8 => ?_)
    refine lp rfl (p_as rfl) ?_
    refine r_sb (vs := [.int .i64 x2.Beats, .int .i64 x2.Unit, .int .i64 x2.Close, .int .i64 x2.Ending, .bool x2.Open]) (j := 0) ty54 rfl rfl rfl rfl rfl rfl rfl ?_
    refine lj_seq ?_
    refine cj_seq ?_
    refine cj_seq ?_
    refine cj_reg ?_
    refine lp rfl (p_lbw ty54 rfl (j := 0) rfl rfl) ?_
    obtain ⟨y9, hy9, hm⟩ := bindS hm
    refine r_call [] cf99 rfl rfl (ok_piece_barFault x2 hy9) rfl rfl .nil (fun _ => rfl) rfl (fun _ => ?_)
    refine lp rfl (p_as rfl) ?_
    refine lj_seq ?_
    refine cj_seq ?_
    refine cj_reg ?_
    refine lp rfl (p_mv rfl) ?_
    refine lp rfl (p_neq rfl rfl) ?_
    refine lj_seq ?_
    refine cj_if (b := y9 != 0) rfl (fun hb => ?_) (fun hb => ?_)
    · have hm := ifB_t hb hm
      refine cj_seq ?_
      refine cj_reg ?_
      refine lp rfl (p_mv rfl) ?_
      refine lp rfl (p_as rfl) ?_
      refine lj_seq ?_
      have hm := hRk6 _ (Option.some.inj hm).symm
      obtain rfl := Option.some.inj hm
      exact cj_rt () [] Tryz.results68 (.tmp rfl .nil) rfl rfl
    · have hm := ifB_f hb hm
      refine cj_skip ?_
      refine nj_seq ?_
      refine cj_seq ?_
      refine cj_blk ?_
      refine cj_seq ?_
      refine cj_reg ?_
      obtain ⟨k12, hk12, hm⟩ := bindS hm
      have hRk12 : ∀ t, k12 = .inr t → some t = some k6 := fun t e => by rw [e] at hm; exact hm
      refine lj_join (σ := Bool) (γ := Unit) (fun u10 => k12 = .inl u10) (fun u10 g11 => [(0, s0_.v), (2, .int .i64 0), (3, .bool u4), (4, .int .i64 (i1 : Int)), (5, .pointer (some ⟨b8, 0, none⟩)), (7, s0_.v), (8, .int .i64 (a0.length : Int)), (9, .int .i64 (i1 : Int)), (19, .bool u10)]) (fun u10 g11 => Sat w0 (keys ([] : List Ent)) A [.box b8 54 [.int .i64 x2.Beats, .int .i64 x2.Unit, .int .i64 x2.Close, .int .i64 x2.Ending, .bool x2.Open], .ro (RdS R54 (SV.v s0_) a0)]) (fun u10 g11 hq => ?_) (fun J cnk12 => ?_)
      · have hm := Sum.fin_l hq hm
        refine cj_if (b := u10) rfl (fun hb => ?_) (fun hb => ?_)
        · have hm := ifB_t hb hm
          refine cj_seq ?_
          refine cj_reg ?_
          refine lp rfl (p_as rfl) ?_
          refine lj_seq ?_
          have hm := hRk6 _ (Option.some.inj hm).symm
          obtain rfl := Option.some.inj hm
          exact cj_rt () [] Tryz.results68 (.tmp rfl .nil) rfl rfl
        · have hm := ifB_f hb hm
          refine cj_seq ?_
          refine cj_reg ?_
          obtain ⟨k15, hk15, hm⟩ := bindS hm
          have hRk15 : ∀ t, k15 = .inr t → some t = some k6 := fun t e => by rw [e] at hm; exact hm
          refine lj_join (σ := Bool) (γ := Unit) (fun u13 => k15 = .inl u13) (fun u13 g14 => [(0, s0_.v), (2, .int .i64 0), (3, .bool u4), (4, .int .i64 (i1 : Int)), (5, .pointer (some ⟨b8, 0, none⟩)), (7, s0_.v), (8, .int .i64 (a0.length : Int)), (9, .int .i64 (i1 : Int)), (25, .bool u13)]) (fun u13 g14 => Sat w0 (keys ([] : List Ent)) A [.box b8 54 [.int .i64 x2.Beats, .int .i64 x2.Unit, .int .i64 x2.Close, .int .i64 x2.Ending, .bool x2.Open], .ro (RdS R54 (SV.v s0_) a0)]) (fun u13 g14 hq => ?_) (fun J cnk15 => ?_)
          · have hm := Sum.fin_l hq hm
            refine cj_if (b := u13) rfl (fun hb => ?_) (fun hb => ?_)
            · have hm := ifB_t hb hm
              refine cj_seq ?_
              refine cj_reg ?_
              refine lp rfl (p_as rfl) ?_
              refine lj_seq ?_
              have hm := hRk6 _ (Option.some.inj hm).symm
              obtain rfl := Option.some.inj hm
              exact cj_rt () [] Tryz.results68 (.tmp rfl .nil) rfl rfl
            · have hm := ifB_f hb hm
              refine cj_seq ?_
              refine cj_quiet (by kernel_rfl) (by kernel_rfl) ?_
              refine q_p rfl (p_mv rfl) ?_
              refine q_p rfl (p_mv rfl) ?_
              refine q_case (i := 45) u4 rfl (fun hb => ?_) (fun hb => ?_)
              · have hm := ifB_t hb hm
                refine q_g true rfl rfl rfl ?_
                refine q_p rfl (p_fab fl54_3 rfl) ?_
                refine q_g true rfl rfl rfl ?_
                refine q_p rfl (p_lbs ty3 rfl (j := 0) rfl rfl) ?_
                refine q_g true rfl rfl rfl ?_
                refine q_p rfl (p_mv rfl) ?_
                refine q_g true rfl rfl rfl ?_
                refine q_p rfl (p_mv rfl) ?_
                refine q_g true rfl rfl rfl ?_
                refine q_p rfl (p_sub rfl rfl) ?_
                refine q_g true rfl rfl rfl ?_
                obtain ⟨e16, he16, hm⟩ := bindS hm
                refine q_p rfl (p_idx Tryz.underlying55 ty54 rfl rfl (.ro 1 rfl) he16) ?_
                refine q_g true rfl rfl rfl ?_
                refine q_p rfl (p_fae fl54_3 rfl (.ro 1 rfl) (getI_spec he16).2) ?_
                refine q_g true rfl rfl rfl ?_
                refine q_p rfl (p_lde (o := 3) ty3 rfl rfl (.ro 1 rfl) (getI_spec he16).2 rfl) ?_
                refine q_g true rfl rfl rfl ?_
                refine q_p rfl (p_lss rfl rfl) ?_
                refine q_p rfl (p_pkt rfl rfl) ?_
                refine q_p rfl (p_as rfl) ?_
                refine q_nil ?_
                refine nj_seq ?_
                refine cj_if (b := decide (x2.Ending < e16.Ending)) rfl (fun hb => ?_) (fun hb => ?_)
                · have hm := ifB_t hb hm
                  refine cj_seq ?_
                  refine cj_reg ?_
                  refine lp rfl (p_as rfl) ?_
                  refine lj_seq ?_
                  have hm := hRk6 _ (Option.some.inj hm).symm
                  obtain rfl := Option.some.inj hm
                  exact cj_rt () [] Tryz.results68 (.tmp rfl .nil) rfl rfl
                · have hm := ifB_f hb hm
                  refine cj_skip ?_
                  refine nj_blk ?_
                  refine nj_seq ?_
                  refine cj_reg ?_
                  refine lp rfl (p_mv rfl) ?_
                  refine lp rfl (p_mv rfl) ?_
                  refine lcase (i := 57) u4 rfl (fun hb => ?_) (fun hb => ?_)
                  · have hm := ifB_t hb hm
                    refine ls false rfl rfl rfl rfl ?_
                    refine ls false rfl rfl rfl rfl ?_
                    refine lp rfl (p_pkt rfl rfl) ?_
                    refine lp rfl (p_mv rfl) ?_
                    refine lg true rfl rfl rfl ?_
                    refine lp rfl (p_fab fl54_2 rfl) ?_
                    refine lg true rfl rfl rfl ?_
                    refine lp rfl (p_lbs ty3 rfl (j := 0) rfl rfl) ?_
                    refine lg true rfl rfl rfl ?_
                    refine lp rfl (p_eql rfl rfl) ?_
                    refine lp rfl (p_pkt rfl rfl) ?_
                    refine lp rfl (p_as rfl) ?_
                    refine lj_nil ?_
                    refine nj_blk ?_
                    exact cnk6 _ _ (x2.Close == 0) () (hJk6 _ (Option.some.inj hm).symm) ⟨rfl, rfl, rfl, rfl, rfl, rfl, trivial⟩ (fun _ h => h.picks [1] rfl)
                  · have hm := ifB_f hb hm
                    refine lg false rfl rfl rfl ?_
                    refine lp rfl (p_fab fl54_4 rfl) ?_
                    refine lg false rfl rfl rfl ?_
                    refine lp rfl (p_lbs ty4 rfl (j := 0) rfl rfl) ?_
                    refine lp rfl (p_pkf rfl rfl) ?_
                    refine lp rfl (p_mv rfl) ?_
                    refine lcase (i := 61) x2.Open rfl (fun hb => ?_) (fun hb => ?_)
                    · have hm := ifB_t hb hm
                      refine lg true rfl rfl rfl ?_
                      refine lp rfl (p_fab fl54_2 rfl) ?_
                      refine lg true rfl rfl rfl ?_
                      refine lp rfl (p_lbs ty3 rfl (j := 0) rfl rfl) ?_
                      refine lg true rfl rfl rfl ?_
                      refine lp rfl (p_eql rfl rfl) ?_
                      refine lp rfl (p_pkt rfl rfl) ?_
                      refine lp rfl (p_as rfl) ?_
                      refine lj_nil ?_
                      refine nj_blk ?_
                      exact cnk6 _ _ (x2.Close == 0) () (hJk6 _ (Option.some.inj hm).symm) ⟨rfl, rfl, rfl, rfl, rfl, rfl, trivial⟩ (fun _ h => h.picks [1] rfl)
                    · have hm := ifB_f hb hm
                      refine ls true rfl rfl rfl rfl ?_
                      refine ls true rfl rfl rfl rfl ?_
                      refine ls true rfl rfl rfl rfl ?_
                      refine lp rfl (p_pkf rfl rfl) ?_
                      refine lp rfl (p_as rfl) ?_
                      refine lj_nil ?_
                      refine nj_blk ?_
                      exact cnk6 _ _ false () (hJk6 _ (Option.some.inj hm).symm) ⟨rfl, rfl, rfl, rfl, rfl, rfl, trivial⟩ (fun _ h => h.picks [1] rfl)
              · have hm := ifB_f hb hm
                refine q_s true rfl rfl rfl rfl ?_
                refine q_s true rfl rfl rfl rfl ?_
                refine q_s true rfl rfl rfl rfl ?_
                refine q_s true rfl rfl rfl rfl ?_
                refine q_s true rfl rfl rfl rfl ?_
                refine q_s true rfl rfl rfl rfl ?_
                refine q_s true rfl rfl rfl rfl ?_
                refine q_s true rfl rfl rfl rfl ?_
                refine q_s true rfl rfl rfl rfl ?_
                refine q_p rfl (p_pkf rfl rfl) ?_
                refine q_p rfl (p_as rfl) ?_
                refine q_nil ?_
                refine nj_seq ?_
                refine cj_if_f rfl ?_
                refine cj_skip ?_
                refine nj_blk ?_
                refine nj_seq ?_
                refine cj_reg ?_
                refine lp rfl (p_mv rfl) ?_
                refine lp rfl (p_mv rfl) ?_
                refine lcase (i := 57) u4 rfl (fun hb => ?_) (fun hb => ?_)
                · have hm := ifB_t hb hm
                  refine ls false rfl rfl rfl rfl ?_
                  refine ls false rfl rfl rfl rfl ?_
                  refine lp rfl (p_pkt rfl rfl) ?_
                  refine lp rfl (p_mv rfl) ?_
                  refine lg true rfl rfl rfl ?_
                  refine lp rfl (p_fab fl54_2 rfl) ?_
                  refine lg true rfl rfl rfl ?_
                  refine lp rfl (p_lbs ty3 rfl (j := 0) rfl rfl) ?_
                  refine lg true rfl rfl rfl ?_
                  refine lp rfl (p_eql rfl rfl) ?_
                  refine lp rfl (p_pkt rfl rfl) ?_
                  refine lp rfl (p_as rfl) ?_
                  refine lj_nil ?_
                  refine nj_blk ?_
                  exact cnk6 _ _ (x2.Close == 0) () (hJk6 _ (Option.some.inj hm).symm) ⟨rfl, rfl, rfl, rfl, rfl, rfl, trivial⟩ (fun _ h => h.picks [1] rfl)
                · have hm := ifB_f hb hm
                  refine lg false rfl rfl rfl ?_
                  refine lp rfl (p_fab fl54_4 rfl) ?_
                  refine lg false rfl rfl rfl ?_
                  refine lp rfl (p_lbs ty4 rfl (j := 0) rfl rfl) ?_
                  refine lp rfl (p_pkf rfl rfl) ?_
                  refine lp rfl (p_mv rfl) ?_
                  refine lcase (i := 61) x2.Open rfl (fun hb => ?_) (fun hb => ?_)
                  · have hm := ifB_t hb hm
                    refine lg true rfl rfl rfl ?_
                    refine lp rfl (p_fab fl54_2 rfl) ?_
                    refine lg true rfl rfl rfl ?_
                    refine lp rfl (p_lbs ty3 rfl (j := 0) rfl rfl) ?_
                    refine lg true rfl rfl rfl ?_
                    refine lp rfl (p_eql rfl rfl) ?_
                    refine lp rfl (p_pkt rfl rfl) ?_
                    refine lp rfl (p_as rfl) ?_
                    refine lj_nil ?_
                    refine nj_blk ?_
                    exact cnk6 _ _ (x2.Close == 0) () (hJk6 _ (Option.some.inj hm).symm) ⟨rfl, rfl, rfl, rfl, rfl, rfl, trivial⟩ (fun _ h => h.picks [1] rfl)
                  · have hm := ifB_f hb hm
                    refine ls true rfl rfl rfl rfl ?_
                    refine ls true rfl rfl rfl rfl ?_
                    refine ls true rfl rfl rfl rfl ?_
                    refine lp rfl (p_pkf rfl rfl) ?_
                    refine lp rfl (p_as rfl) ?_
                    refine lj_nil ?_
                    refine nj_blk ?_
                    exact cnk6 _ _ false () (hJk6 _ (Option.some.inj hm).symm) ⟨rfl, rfl, rfl, rfl, rfl, rfl, trivial⟩ (fun _ h => h.picks [1] rfl)
          · have hm := hk15
            refine lp rfl (p_fab fl54_4 rfl) ?_
            refine lp rfl (p_lbs ty4 rfl (j := 0) rfl rfl) ?_
            refine lp rfl (p_not rfl) ?_
            refine lp rfl (p_mv rfl) ?_
            refine lcase (i := 29) (!x2.Open) rfl (fun hb => ?_) (fun hb => ?_)
            · have hm := ifB_t hb hm
              refine lg true rfl rfl rfl ?_
              refine lp rfl (p_mv rfl) ?_
              refine lg true rfl rfl rfl ?_
              refine lp rfl (p_not rfl) ?_
              refine lp rfl (p_pkt rfl rfl) ?_
              refine lp rfl (p_mv rfl) ?_
              refine lcase (i := 33) (!u4) rfl (fun hb => ?_) (fun hb => ?_)
              · have hm := ifB_t hb hm
                refine lg true rfl rfl rfl ?_
                refine lp rfl (p_fab fl54_2 rfl) ?_
                refine lg true rfl rfl rfl ?_
                refine lp rfl (p_lbs ty3 rfl (j := 0) rfl rfl) ?_
                refine lg true rfl rfl rfl ?_
                refine lp rfl (p_neq rfl rfl) ?_
                refine lg true rfl rfl rfl ?_
                refine lp rfl (p_mv rfl) ?_
                refine lcase (i := 37) (x2.Close != 0) rfl (fun hb => ?_) (fun hb => ?_)
                · have hm := ifB_t hb hm
                  refine ls false rfl rfl rfl rfl ?_
                  refine ls false rfl rfl rfl rfl ?_
                  refine ls false rfl rfl rfl rfl ?_
                  refine lg true rfl rfl rfl ?_
                  refine lp rfl (p_pkt rfl rfl) ?_
                  refine lp rfl (p_pkt rfl rfl) ?_
                  refine lp rfl (p_as rfl) ?_
                  refine lj_nil ?_
                  exact cnk15 _ _ true () (Option.some.inj hm).symm ⟨rfl, rfl, rfl, rfl, rfl, rfl, rfl, rfl, rfl, trivial⟩ (fun _ h => h.picks [0, 0] rfl)
                · have hm := ifB_f hb hm
                  refine lg false rfl rfl rfl ?_
                  refine lp rfl (p_fab fl54_3 rfl) ?_
                  refine lg false rfl rfl rfl ?_
                  refine lp rfl (p_lbs ty3 rfl (j := 0) rfl rfl) ?_
                  refine lg false rfl rfl rfl ?_
                  refine lp rfl (p_neq rfl rfl) ?_
                  refine lg true rfl rfl rfl ?_
                  refine lp rfl (p_pkf rfl rfl) ?_
                  refine lp rfl (p_pkt rfl rfl) ?_
                  refine lp rfl (p_as rfl) ?_
                  refine lj_nil ?_
                  exact cnk15 _ _ (x2.Ending != 0) () (Option.some.inj hm).symm ⟨rfl, rfl, rfl, rfl, rfl, rfl, rfl, rfl, rfl, trivial⟩ (fun _ h => h.picks [0, 0] rfl)
              · have hm := ifB_f hb hm
                refine ls true rfl rfl rfl rfl ?_
                refine ls true rfl rfl rfl rfl ?_
                refine ls true rfl rfl rfl rfl ?_
                refine ls true rfl rfl rfl rfl ?_
                refine lsu rfl rfl rfl rfl ?_
                refine lsu rfl rfl rfl rfl ?_
                refine lsu rfl rfl rfl rfl ?_
                refine ls true rfl rfl rfl rfl ?_
                refine lp rfl (p_pkf rfl rfl) ?_
                refine lp rfl (p_as rfl) ?_
                refine lj_nil ?_
                exact cnk15 _ _ false () (Option.some.inj hm).symm ⟨rfl, rfl, rfl, rfl, rfl, rfl, rfl, rfl, rfl, trivial⟩ (fun _ h => h.picks [0, 0] rfl)
            · have hm := ifB_f hb hm
              refine ls true rfl rfl rfl rfl ?_
              refine ls true rfl rfl rfl rfl ?_
              refine lp rfl (p_pkf rfl rfl) ?_
              refine lp rfl (p_mv rfl) ?_
              refine ls true rfl rfl rfl rfl ?_
              refine ls true rfl rfl rfl rfl ?_
              refine ls true rfl rfl rfl rfl ?_
              refine ls true rfl rfl rfl rfl ?_
              refine lsu rfl rfl rfl rfl ?_
              refine lsu rfl rfl rfl rfl ?_
              refine lsu rfl rfl rfl rfl ?_
              refine ls true rfl rfl rfl rfl ?_
              refine lp rfl (p_pkf rfl rfl) ?_
              refine lp rfl (p_as rfl) ?_
              refine lj_nil ?_
              exact cnk15 _ _ false () (Option.some.inj hm).symm ⟨rfl, rfl, rfl, rfl, rfl, rfl, rfl, rfl, rfl, trivial⟩ (fun _ h => h.picks [0, 0] rfl)
      · have hm := hk12
        refine lp rfl (p_fab fl54_4 rfl) ?_
        refine lp rfl (p_lbs ty4 rfl (j := 0) rfl rfl) ?_
        refine lp rfl (p_mv rfl) ?_
        refine lcase (i := 22) x2.Open rfl (fun hb => ?_) (fun hb => ?_)
        · have hm := ifB_t hb hm
          refine lg true rfl rfl rfl ?_
          refine lp rfl (p_mv rfl) ?_
          refine lp rfl (p_pkt rfl rfl) ?_
          refine lp rfl (p_as rfl) ?_
          refine lj_nil ?_
          exact cnk12 _ _ u4 () (Option.some.inj hm).symm ⟨rfl, rfl, rfl, rfl, rfl, rfl, rfl, rfl, rfl, trivial⟩ (fun _ h => h.picks [0, 0] rfl)
        · have hm := ifB_f hb hm
          refine ls true rfl rfl rfl rfl ?_
          refine lp rfl (p_pkf rfl rfl) ?_
          refine lp rfl (p_as rfl) ?_
          refine lj_nil ?_
          exact cnk12 _ _ false () (Option.some.inj hm).symm ⟨rfl, rfl, rfl, rfl, rfl, rfl, rfl, rfl, rfl, trivial⟩ (fun _ h => h.picks [0, 0] rfl)
theorem ok_piece_repeats (s0_ : SV) (a0 : (List TBar)) {r : (List Tpiece_repeat) × Bool} (hm : m_piece_repeats a0 = some r) :
    Ctr Tryz.prog 69 [s0_.v].toArray ([] : List Ent) [RdS R54 (SV.v s0_) a0] (X := SV) (fun s => .tuple [s.v, .bool r.2].toArray) (fun s => [.row R158 (SV.v s) r.1]) := by
  unfold m_piece_repeats at hm
  refine ctr_mk (vs := [(0, s0_.v)]) Tryz.func69 rfl Tryz.ntmps69 rfl ⟨rfl, trivial⟩ (fun w0 A => ?_)
  refine cj_seq ?_
  refine cj_reg ?_
  refine lp rfl (p_as rfl) ?_
  refine lp rfl (p_as rfl) ?_
  refine lj_seq ?_
  refine cj_seq ?_
  refine cj_reg ?_
  refine lp rfl (p_as rfl) ?_
  refine lj_seq ?_
  refine cj_seq ?_
  refine cj_reg ?_
  refine lp rfl (p_as rfl) ?_
  refine lj_seq ?_
  refine cj_seq ?_
  refine cj_seq ?_
  refine cj_reg ?_
  refine lp rfl (p_mv rfl) ?_
  refine lp rfl (p_len Tryz.underlying55 rfl (.ro 0 rfl)) ?_
  refine lp rfl (p_mv rfl) ?_
  refine lj_seq ?_
  refine cj_nil R158 ?_
  obtain ⟨f8, hf8, hm⟩ := bindS hm
  refine cj_range (γ := SV) (m := (a0.length : Int)) hf8 nilS (fun u5 g6 => [(0, s0_.v), (2, .slice none 0 0), (3, .bool false), (4, g6.v), (5, .int .i64 u5.1), (12, s0_.v)]) (fun u5 g6 => Sat w0 (keys ([] : List Ent)) A [.ro (RdS R54 (SV.v s0_) a0), .row R158 (SV.v g6) u5.2]) ⟨rfl, rfl, rfl, rfl, rfl, rfl, rfl, rfl, trivial⟩ (fun _ h => h.picks [1, 0] rfl) (nat_lt _) (fun _ h => (FactAt.get (F := RdS R54 (SV.v s0_) a0) (.ro 1 rfl) h).1) (fun _ _ => ⟨rfl, rfl, rfl, rfl⟩) ⟨rfl, rfl, rfl, rfl, rfl⟩ rfl rfl rfl (fun u5 g6 e => ?_) (fun aftk7 i1 x2 u5 g6 k7 hx3 hs J hJk7 hBk7 hX I cnk7 => ?_)
  · have hm := Flow.fin_b e hm
    refine nj_seq ?_
    refine cj_seq ?_
    refine cj_seq ?_
    refine cj_reg ?_
    refine lp rfl (p_mv rfl) ?_
    refine lp rfl (p_len Tryz.underlying122 rfl (.row 1 rfl)) ?_
    refine lp rfl (p_mv rfl) ?_
    refine lj_seq ?_
    obtain ⟨f27, hf27, hm⟩ := bindS hm
    refine cj_range (γ := Unit) (m := (u5.2.length : Int)) hf27 () (fun u24 g25 => [(0, s0_.v), (2, .slice none 0 0), (3, .bool false), (4, g6.v), (5, .int .i64 u5.1), (44, g6.v)]) (fun u24 g25 => Sat w0 (keys ([] : List Ent)) A [.ro (RdS R54 (SV.v s0_) a0), .row R158 (SV.v g6) u5.2]) ⟨rfl, rfl, rfl, rfl, rfl, rfl, rfl, rfl, trivial⟩ (fun _ h => h.picks [0, 0] rfl) (nat_lt _) (fun _ h => (FactAt.get (F := RdS R158 (SV.v g6) u5.2) (.row 1 rfl) h).1) (fun _ _ => ⟨rfl, rfl, rfl, rfl⟩) ⟨rfl, rfl, rfl, rfl, rfl⟩ rfl rfl rfl (fun u24 g25 e => ?_) (fun aftk26 i21 x22 u24 g25 k26 hx23 hs J hJk26 hBk26 hX I cnk26 => ?_)
    · have hm := Flow.fin_b e hm
      refine nj_seq ?_
      refine cj_seq ?_
      refine cj_reg ?_
      refine lp rfl (p_mv rfl) ?_
      refine lp rfl (p_mv rfl) ?_
      refine lp rfl (p_lss rfl rfl) ?_
      refine lp rfl (p_as rfl) ?_
      refine lp rfl (p_as rfl) ?_
      refine lj_seq ?_
      obtain rfl := Option.some.inj hm
      exact cj_rt g6 [1] Tryz.results69 (.tmp rfl (.tmp rfl .nil)) rfl rfl
    · have hRk26 : ∀ t, k26 = .ret t → some t = some r := fun t e => by rw [hX t e] at hm; exact hm
      have hm := hs
      refine cj_seq ?_
      refine cj_reg ?_
      refine lp rfl (p_idx Tryz.underlying122 ty158 rfl rfl (.row 1 rfl) (getI_nat.trans hx23)) ?_
      refine lp rfl (p_lea ty158 rfl (.row 1 rfl) hx23) ?_
      refine r_al ty158 rfl (fun b28 => ?_)
      refine r_sb (vs := [.int .i64 x22.from_, .int .i64 x22.to_, .int .i64 x22.times]) (j := 0) ty158 rfl rfl rfl rfl rfl rfl rfl ?_
      refine lj_seq ?_
      refine cj_seq ?_
      refine cj_reg ?_
      refine lp rfl (p_mv rfl) ?_
      refine lp rfl (p_fab fl158_0 rfl) ?_
      refine lp rfl (p_lbs ty3 rfl (j := 0) rfl rfl) ?_
      refine lp rfl (p_fab fl158_1 rfl) ?_
      refine lp rfl (p_lbs ty3 rfl (j := 0) rfl rfl) ?_
      obtain ⟨q29, hq29, hm⟩ := bindS hm
      refine lp rfl (p_cut Tryz.underlying55 ty54 rfl rfl rfl rfl rfl (.ro 1 rfl) rfl rfl hq29) ?_
      refine lp rfl (p_len Tryz.underlying55 rfl (.imp (.ro 1 rfl) (fun _ h => h.cut hq29))) ?_
      refine lp rfl (p_mv rfl) ?_
      refine lj_seq ?_
      obtain ⟨f36, hf36, hm⟩ := bindS hm
      refine cj_range (γ := Unit) (m := (q29.length : Int)) hf36 () (fun u33 g34 => [(0, s0_.v), (2, .slice none 0 0), (3, .bool false), (4, g6.v), (5, .int .i64 u5.1), (9, .pointer (some ⟨b28, 0, none⟩)), (44, g6.v), (45, .int .i64 (u5.2.length : Int)), (46, .int .i64 (i21 : Int)), (55, (s0_.sub R54.sz x22.from_.toNat x22.to_.toNat).v)]) (fun u33 g34 => Sat w0 (keys ([] : List Ent)) A [.box b28 158 [.int .i64 x22.from_, .int .i64 x22.to_, .int .i64 x22.times], .ro (RdS R54 (SV.v s0_) a0), .row R158 (SV.v g6) u5.2]) ⟨rfl, rfl, rfl, rfl, rfl, rfl, rfl, rfl, rfl, rfl, rfl, rfl, trivial⟩ (fun _ h => h.picks [0, 0, 0] rfl) (nat_lt _) (fun _ h => (FactAt.get (F := RdS R54 (SV.v (s0_.sub R54.sz x22.from_.toNat x22.to_.toNat)) q29) (.imp (.ro 1 rfl) (fun _ h => h.cut hq29)) h).1) (fun _ _ => ⟨rfl, rfl, rfl, rfl⟩) ⟨rfl, rfl, rfl, rfl, rfl⟩ rfl rfl rfl (fun u33 g34 e => ?_) (fun aftk35 i30 x31 u33 g34 k35 hx32 hs J hJk35 hBk35 hX I cnk35 => ?_)
      · have hm := Flow.fin_b e hm
        refine nj_blk ?_
        exact cnk26 _ _ () () (hJk26 _ (Option.some.inj hm).symm) ⟨rfl, rfl, rfl, rfl, rfl, rfl, rfl, rfl, trivial⟩ (fun _ h => h.picks [1, 1] rfl)
      · have hRk35 : ∀ t, k35 = .ret t → some t = some k26 := fun t e => by rw [hX t e] at hm; exact hm
        have hm := hs
        refine cj_seq ?_
        refine cj_reg ?_
        refine lp rfl (p_idx Tryz.underlying55 ty54 rfl rfl (.imp (.ro 1 rfl) (fun _ h => h.cut hq29)) (getI_nat.trans hx32)) ?_
        refine lp rfl (p_lea ty54 rfl (.imp (.ro 1 rfl) (fun _ h => h.cut hq29)) hx32) ?_
        refine r_al ty54 rfl (fun b37 => ?_)
        refine r_sb (vs := [.int .i64 x31.Beats, .int .i64 x31.Unit, .int .i64 x31.Close, .int .i64 x31.Ending, .bool x31.Open]) (j := 0) ty54 rfl rfl rfl rfl rfl rfl rfl ?_
        refine lj_seq ?_
        refine cj_seq ?_
        refine cj_reg ?_
        obtain ⟨k40, hk40, hm⟩ := bindS hm
        have hRk40 : ∀ t, k40 = .inr t → some t = some k35 := fun t e => by rw [e] at hm; exact hm
        refine lj_join (σ := Bool) (γ := Unit) (fun u38 => k40 = .inl u38) (fun u38 g39 => [(0, s0_.v), (2, .slice none 0 0), (3, .bool false), (4, g6.v), (5, .int .i64 u5.1), (9, .pointer (some ⟨b28, 0, none⟩)), (44, g6.v), (45, .int .i64 (u5.2.length : Int)), (46, .int .i64 (i21 : Int)), (55, (s0_.sub R54.sz x22.from_.toNat x22.to_.toNat).v), (56, .int .i64 (q29.length : Int)), (57, .int .i64 (i30 : Int)), (70, .bool u38)]) (fun u38 g39 => Sat w0 (keys ([] : List Ent)) A [.box b28 158 [.int .i64 x22.from_, .int .i64 x22.to_, .int .i64 x22.times], .ro (RdS R54 (SV.v s0_) a0), .row R158 (SV.v g6) u5.2]) (fun u38 g39 hq => ?_) (fun J cnk40 => ?_)
        · have hm := Sum.fin_l hq hm
          refine cj_if (b := u38) rfl (fun hb => ?_) (fun hb => ?_)
          · have hm := ifB_t hb hm
            refine cj_seq ?_
            refine cj_reg ?_
            refine lp rfl (p_as rfl) ?_
            refine lp rfl (p_as rfl) ?_
            refine lj_seq ?_
            have hm := hRk35 _ (Option.some.inj hm).symm
            have hm := hRk26 _ (Option.some.inj hm).symm
            obtain rfl := Option.some.inj hm
            refine cj_nil R158 ?_
            exact cj_rt nilS [0] Tryz.results69 (.tmp rfl (.tmp rfl .nil)) rfl rfl
          · have hm := ifB_f hb hm
            refine cj_skip ?_
            refine nj_blk ?_
            exact cnk35 _ _ () () (hJk35 _ (Option.some.inj hm).symm) ⟨rfl, rfl, rfl, rfl, rfl, rfl, rfl, rfl, rfl, rfl, rfl, rfl, trivial⟩ (fun _ h => h.picks [0, 0, 0] rfl)
        · have hm := hk40
          refine lp rfl (p_fab fl158_2 rfl) ?_
          refine lp rfl (p_lbs ty3 rfl (j := 1) rfl rfl) ?_
          refine lp rfl (p_gtr rfl rfl) ?_
          refine lp rfl (p_mv rfl) ?_
          refine lcase (i := 64) (decide (x22.times > 1)) rfl (fun hb => ?_) (fun hb => ?_)
          · have hm := ifB_t hb hm
            refine lg true rfl rfl rfl ?_
            refine lp rfl (p_fab fl54_3 rfl) ?_
            refine lg true rfl rfl rfl ?_
            refine lp rfl (p_lbs ty3 rfl (j := 0) rfl rfl) ?_
            refine lg true rfl rfl rfl ?_
            refine lp rfl (p_fab fl158_2 rfl) ?_
            refine lg true rfl rfl rfl ?_
            refine lp rfl (p_lbs ty3 rfl (j := 1) rfl rfl) ?_
            refine lg true rfl rfl rfl ?_
            refine lp rfl (p_gtr rfl rfl) ?_
            refine lp rfl (p_pkt rfl rfl) ?_
            refine lj_nil ?_
            exact cnk40 _ _ (decide (x31.Ending > x22.times)) () (Option.some.inj hm).symm ⟨rfl, rfl, rfl, rfl, rfl, rfl, rfl, rfl, rfl, rfl, rfl, rfl, rfl, trivial⟩ (fun _ h => h.picks [1, 1, 1] rfl)
          · have hm := ifB_f hb hm
            refine ls true rfl rfl rfl rfl ?_
            refine ls true rfl rfl rfl rfl ?_
            refine ls true rfl rfl rfl rfl ?_
            refine ls true rfl rfl rfl rfl ?_
            refine ls true rfl rfl rfl rfl ?_
            refine lp rfl (p_pkf rfl rfl) ?_
            refine lj_nil ?_
            exact cnk40 _ _ false () (Option.some.inj hm).symm ⟨rfl, rfl, rfl, rfl, rfl, rfl, rfl, rfl, rfl, rfl, rfl, rfl, rfl, trivial⟩ (fun _ h => h.picks [1, 1, 1] rfl)
  · have hRk7 : ∀ t, k7 = .ret t → some t = some r := fun t e => by rw [hX t e] at hm; exact hm
    have hm := hs
    refine cj_seq ?_
    refine cj_reg ?_
    refine lp rfl (p_mv rfl) ?_
    refine lp rfl (p_idx Tryz.underlying55 ty54 rfl rfl (.ro 0 rfl) (getI_nat.trans hx3)) ?_
    refine lp rfl (p_lea ty54 rfl (.ro 0 rfl) hx3) ?_
    refine r_al ty54 rfl (fun b10 => ?_)
    refine lp rfl (p_as rfl) ?_
    refine r_sb (vs := [.int .i64 x2.Beats, .int .i64 x2.Unit, .int .i64 x2.Close, .int .i64 x2.Ending, .bool x2.Open]) (j := 0) ty54 rfl rfl rfl rfl rfl rfl rfl ?_
    refine lj_seq ?_
    refine cj_seq ?_
    refine cj_seq ?_
    refine cj_reg ?_
    refine lp rfl (p_fab fl54_4 rfl) ?_
    refine lp rfl (p_lbs ty4 rfl (j := 0) rfl rfl) ?_
    refine lj_seq ?_
    obtain ⟨k13, hk13, hm⟩ := bindS hm
    have hRk13 : ∀ t, k13 = .inr t → some t = some k7 := fun t e => by rw [e] at hm; exact hm
    refine cj_joinK (σ := Int) (γ := Unit) (fun u11 => k13 = .inl u11) (fun u11 g12 => [(0, s0_.v), (2, .slice none 0 0), (3, .bool false), (4, g6.v), (5, .int .i64 u11), (6, .int .i64 (i1 : Int)), (7, .pointer (some ⟨b10, 0, none⟩)), (12, s0_.v), (13, .int .i64 (a0.length : Int)), (14, .int .i64 (i1 : Int))]) (fun u11 g12 => Sat w0 (keys ([] : List Ent)) A [.box b10 54 [.int .i64 x2.Beats, .int .i64 x2.Unit, .int .i64 x2.Close, .int .i64 x2.Ending, .bool x2.Open], .ro (RdS R54 (SV.v s0_) a0), .row R158 (SV.v g6) u5.2]) (fun u11 g12 hq => ?_) (fun J cnk13 => ?_)
    · have hm := Sum.fin_l hq hm
      refine cj_seq ?_
      refine cj_reg ?_
      refine lp rfl (p_mv rfl) ?_
      refine lp rfl (p_lss rfl rfl) ?_
      refine lj_seq ?_
      refine cj_if (b := decide (u11 < 0)) rfl (fun hb => ?_) (fun hb => ?_)
      · have hm := ifB_t hb hm
        refine cj_reg ?_
        refine lp rfl (p_mv rfl) ?_
        refine lp rfl (p_mv rfl) ?_
        refine lp rfl (p_mv rfl) ?_
        refine lp rfl (p_add rfl rfl) ?_
        refine lp rfl (p_bld [.int .i64 (i1 : Int), .int .i64 (w64 ((i1 : Int) + 1)), .int .i64 1] rfl (fun _ => by kernel_rfl)) ?_
        refine r_bs R158 [(Tpiece_repeat.mk (i1 : Int) (w64 ((i1 : Int) + 1)) 1)] rfl rfl rfl (fun _ => by kernel_rfl) rfl (fun s14 => ?_)
        obtain ⟨q15, hq15, hm⟩ := bindS hm
        refine r_app (k := 3) Tryz.underlying122 ty158 rfl rfl rfl rfl (.row 0 rfl) hq15 rfl (fun s16 => ?_)
        refine lp rfl (p_as rfl) ?_
        refine lj_nil ?_
        refine nj_blk ?_
        exact cnk7 _ _ (u11, q15) s16 (hJk7 _ (Option.some.inj hm).symm) ⟨rfl, rfl, rfl, rfl, rfl, rfl, rfl, rfl, trivial⟩ (fun _ h => h.picks [2, 2] rfl)
      · have hm := ifB_f hb hm
        refine cj_seq ?_
        refine cj_reg ?_
        refine lp rfl (p_fab fl54_2 rfl) ?_
        refine lp rfl (p_lbs ty3 rfl (j := 0) rfl rfl) ?_
        refine lp rfl (p_gtr rfl rfl) ?_
        refine lj_seq ?_
        refine cj_if (b := decide (x2.Close > 0)) rfl (fun hb => ?_) (fun hb => ?_)
        · have hm := ifB_t hb hm
          refine cj_seq ?_
          refine cj_reg ?_
          refine lp rfl (p_mv rfl) ?_
          refine lp rfl (p_mv rfl) ?_
          refine lp rfl (p_mv rfl) ?_
          refine lp rfl (p_add rfl rfl) ?_
          refine lp rfl (p_fab fl54_2 rfl) ?_
          refine lp rfl (p_lbs ty3 rfl (j := 0) rfl rfl) ?_
          refine lp rfl (p_bld [.int .i64 u11, .int .i64 (w64 ((i1 : Int) + 1)), .int .i64 x2.Close] rfl (fun _ => by kernel_rfl)) ?_
          refine r_bs R158 [(Tpiece_repeat.mk u11 (w64 ((i1 : Int) + 1)) x2.Close)] rfl rfl rfl (fun _ => by kernel_rfl) rfl (fun s17 => ?_)
          obtain ⟨q18, hq18, hm⟩ := bindS hm
          refine r_app (k := 3) Tryz.underlying122 ty158 rfl rfl rfl rfl (.row 0 rfl) hq18 rfl (fun s19 => ?_)
          refine lp rfl (p_as rfl) ?_
          refine lj_seq ?_
          refine cj_reg ?_
          refine lp rfl (p_as rfl) ?_
          refine lj_nil ?_
          refine nj_blk ?_
          exact cnk7 _ _ ((-1), q18) s19 (hJk7 _ (Option.some.inj hm).symm) ⟨rfl, rfl, rfl, rfl, rfl, rfl, rfl, rfl, trivial⟩ (fun _ h => h.picks [2, 2] rfl)
        · have hm := ifB_f hb hm
          refine cj_skip ?_
          refine nj_blk ?_
          exact cnk7 _ _ (u11, u5.2) g6 (hJk7 _ (Option.some.inj hm).symm) ⟨rfl, rfl, rfl, rfl, rfl, rfl, rfl, rfl, trivial⟩ (fun _ h => h.picks [1, 1] rfl)
    · have hm := hk13
      refine cj_if (b := x2.Open) rfl (fun hb => ?_) (fun hb => ?_)
      · have hm := ifB_t hb hm
        refine cj_reg ?_
        refine lp rfl (p_mv rfl) ?_
        refine lp rfl (p_as rfl) ?_
        refine lj_nil ?_
        exact cnk13 _ _ (i1 : Int) () (Option.some.inj hm).symm ⟨rfl, rfl, rfl, rfl, rfl, rfl, rfl, rfl, rfl, rfl, trivial⟩ (fun _ h => h.picks [0, 0, 0] rfl)
      · have hm := ifB_f hb hm
        refine cj_skip ?_
        exact cnk13 _ _ u5.1 () (Option.some.inj hm).symm ⟨rfl, rfl, rfl, rfl, rfl, rfl, rfl, rfl, rfl, rfl, trivial⟩ (fun _ h => h.picks [0, 0, 0] rfl)
theorem ok_piece_order (s0_ : SV) (a0 : (List TBar)) (s1_ : SV) (a1 : (List Tpiece_repeat)) (a2 : Int) {r : (List Int)} (hm : m_piece_order a0 a1 a2 = some r) :
    Ctr Tryz.prog 70 [s0_.v, s1_.v, .int .i64 a2].toArray ([] : List Ent) [RdS R54 (SV.v s0_) a0, RdS R158 (SV.v s1_) a1] (X := SV) (fun s => s.v) (fun s => [.row R3 (SV.v s) r]) := by
  unfold m_piece_order at hm
  refine ctr_mk (vs := [(0, s0_.v), (1, s1_.v), (2, .int .i64 a2)]) Tryz.func70 rfl Tryz.ntmps70 rfl ⟨rfl, rfl, rfl, trivial⟩ (fun w0 A => ?_)
  refine cj_seq ?_
  refine cj_reg ?_
  refine lp rfl (p_as rfl) ?_
  refine lj_seq ?_
  refine cj_seq ?_
  refine cj_reg ?_
  refine lp rfl (p_as rfl) ?_
  refine lj_seq ?_
  refine cj_seq ?_
  refine cj_seq ?_
  refine cj_reg ?_
  refine lp rfl (p_mv rfl) ?_
  refine lp rfl (p_len Tryz.underlying122 rfl (.ro 1 rfl)) ?_
  refine lp rfl (p_mv rfl) ?_
  refine lj_seq ?_
  refine cj_nil R3 ?_
  obtain ⟨f8, hf8, hm⟩ := bindS hm
  refine cj_range (γ := SV) (m := (a1.length : Int)) hf8 nilS (fun u5 g6 => [(0, s0_.v), (2, .int .i64 a2), (6, .slice none 0 0), (7, g6.v), (12, s1_.v)]) (fun u5 g6 => Sat w0 (keys ([] : List Ent)) A [.ro (RdS R54 (SV.v s0_) a0), .ro (RdS R158 (SV.v s1_) a1), .row R3 (SV.v g6) u5]) ⟨rfl, rfl, rfl, rfl, rfl, rfl, rfl, trivial⟩ (fun _ h => h.picks [1, 1, 0] rfl) (nat_lt _) (fun _ h => (FactAt.get (F := RdS R158 (SV.v s1_) a1) (.ro 2 rfl) h).1) (fun _ _ => ⟨rfl, rfl, rfl, rfl⟩) ⟨rfl, rfl, rfl, rfl, rfl⟩ rfl rfl rfl (fun u5 g6 e => ?_) (fun aftk7 i1 x2 u5 g6 k7 hx3 hs J hJk7 hBk7 hX I cnk7 => ?_)
  · have hm := Flow.fin_b e hm
    refine nj_seq ?_
    refine cj_seq ?_
    refine cj_reg ?_
    refine lp rfl (p_mv rfl) ?_
    refine lp rfl (p_as rfl) ?_
    refine lj_seq ?_
    obtain rfl := Option.some.inj hm
    exact cj_rt g6 [2] Tryz.results70 (.tmp rfl .nil) rfl rfl
  · have hRk7 : ∀ t, k7 = .ret t → some t = some r := fun t e => by rw [hX t e] at hm; exact hm
    have hm := hs
    refine cj_seq ?_
    refine cj_reg ?_
    refine lp rfl (p_idx Tryz.underlying122 ty158 rfl rfl (.ro 1 rfl) (getI_nat.trans hx3)) ?_
    refine lp rfl (p_lea ty158 rfl (.ro 1 rfl) hx3) ?_
    refine r_al ty158 rfl (fun b10 => ?_)
    refine r_sb (vs := [.int .i64 x2.from_, .int .i64 x2.to_, .int .i64 x2.times]) (j := 0) ty158 rfl rfl rfl rfl rfl rfl rfl ?_
    refine lj_seq ?_
    refine cj_seq ?_
    refine cj_reg ?_
    refine lp rfl (p_as rfl) ?_
    refine lj_seq ?_
    obtain ⟨f14, hf14, hm⟩ := bindS hm
    refine cj_whileA (γ := SV) hf14 g6 (fun u11 g12 => [(0, s0_.v), (2, .int .i64 a2), (6, .slice none 0 0), (7, g12.v), (9, .pointer (some ⟨b10, 0, none⟩)), (10, .int .i64 u11.1), (12, s1_.v), (13, .int .i64 (a1.length : Int)), (14, .int .i64 (i1 : Int))]) (fun u11 g12 => Sat w0 (keys ([] : List Ent)) A [.box b10 158 [.int .i64 x2.from_, .int .i64 x2.to_, .int .i64 x2.times], .ro (RdS R54 (SV.v s0_) a0), .ro (RdS R158 (SV.v s1_) a1), .row R3 (SV.v g12) u11.2]) ⟨rfl, rfl, rfl, rfl, rfl, rfl, rfl, rfl, rfl, trivial⟩ (fun _ h => h.picks [0, 0, 0, 0] rfl) (fun u11 g12 e => ?_) (fun aftk13 u11 g12 k13 hs J hJk13 hBk13 hX I cnk13 => ?_)
    · have hm := Flow.fin_b e hm
      refine nj_blk ?_
      exact cnk7 _ _ u11.2 g12 (hJk7 _ (Option.some.inj hm).symm) ⟨rfl, rfl, rfl, rfl, rfl, rfl, rfl, trivial⟩ (fun _ h => h.picks [1, 1, 1] rfl)
    · have hRk13 : ∀ t, k13 = .ret t → some t = some k7 := fun t e => by rw [hX t e] at hm; exact hm
      have hm := hs
      refine cj_seq ?_
      refine cj_seq ?_
      refine cj_reg ?_
      refine lp rfl (p_mv rfl) ?_
      refine lp rfl (p_fab fl158_2 rfl) ?_
      refine lp rfl (p_lbs ty3 rfl (j := 0) rfl rfl) ?_
      refine lp rfl (p_leq rfl rfl) ?_
      refine lj_seq ?_
      refine cj_if (b := decide (u11.1 ≤ x2.times)) rfl (fun hb => ?_) (fun hb => ?_)
      · have hm := ifB_t hb hm
        refine cj_skip ?_
        refine nj_seq ?_
        refine cj_seq ?_
        refine cj_blk ?_
        refine cj_seq ?_
        refine cj_reg ?_
        refine lp rfl (p_fab fl158_0 rfl) ?_
        refine lp rfl (p_lbs ty3 rfl (j := 0) rfl rfl) ?_
        refine lp rfl (p_as rfl) ?_
        refine lj_seq ?_
        obtain ⟨f19, hf19, hm⟩ := bindS hm
        refine cj_whileA (γ := SV) hf19 g12 (fun u16 g17 => [(0, s0_.v), (2, .int .i64 a2), (6, .slice none 0 0), (7, g17.v), (9, .pointer (some ⟨b10, 0, none⟩)), (10, .int .i64 u11.1), (11, .int .i64 u16.1), (12, s1_.v), (13, .int .i64 (a1.length : Int)), (14, .int .i64 (i1 : Int))]) (fun u16 g17 => Sat w0 (keys ([] : List Ent)) A [.box b10 158 [.int .i64 x2.from_, .int .i64 x2.to_, .int .i64 x2.times], .ro (RdS R54 (SV.v s0_) a0), .ro (RdS R158 (SV.v s1_) a1), .row R3 (SV.v g17) u16.2]) ⟨rfl, rfl, rfl, rfl, rfl, rfl, rfl, rfl, rfl, rfl, trivial⟩ (fun _ h => h.picks [0, 0, 0, 0] rfl) (fun u16 g17 e => ?_) (fun aftk18 u16 g17 k18 hs J hJk18 hBk18 hX I cnk18 => ?_)
        · have hm := Flow.fin_b e hm
          refine nj_blk ?_
          refine nj_seq ?_
          refine cj_reg ?_
          refine lp rfl (p_mv rfl) ?_
          refine lp rfl (p_add rfl rfl) ?_
          refine lp rfl (p_as rfl) ?_
          refine lj_nil ?_
          exact cnk13 _ _ (w64 (u11.1 + 1), u16.2) g17 (hJk13 _ (Option.some.inj hm).symm) ⟨rfl, rfl, rfl, rfl, rfl, rfl, rfl, rfl, rfl, trivial⟩ (fun _ h => h.picks [0, 0, 0, 0] rfl)
        · have hRk18 : ∀ t, k18 = .ret t → some t = some k13 := fun t e => by rw [hX t e] at hm; exact hm
          have hm := hs
          refine cj_seq ?_
          refine cj_seq ?_
          refine cj_reg ?_
          obtain ⟨k23, hk23, hm⟩ := bindS hm
          have hRk23 : ∀ t, k23 = .inr t → some t = some k18 := fun t e => by rw [e] at hm; exact hm
          refine lj_join (σ := Bool) (γ := Unit) (fun u21 => k23 = .inl u21) (fun u21 g22 => [(0, s0_.v), (2, .int .i64 a2), (6, .slice none 0 0), (7, g17.v), (9, .pointer (some ⟨b10, 0, none⟩)), (10, .int .i64 u11.1), (11, .int .i64 u16.1), (12, s1_.v), (13, .int .i64 (a1.length : Int)), (14, .int .i64 (i1 : Int)), (35, .bool u21)]) (fun u21 g22 => Sat w0 (keys ([] : List Ent)) A [.box b10 158 [.int .i64 x2.from_, .int .i64 x2.to_, .int .i64 x2.times], .ro (RdS R54 (SV.v s0_) a0), .ro (RdS R158 (SV.v s1_) a1), .row R3 (SV.v g17) u16.2]) (fun u21 g22 hq => ?_) (fun J cnk23 => ?_)
          · have hm := Sum.fin_l hq hm
            refine cj_if (b := u21) rfl (fun hb => ?_) (fun hb => ?_)
            · have hm := ifB_t hb hm
              refine cj_skip ?_
              refine nj_seq ?_
              refine cj_seq ?_
              refine cj_blk ?_
              refine cj_seq ?_
              refine cj_reg ?_
              obtain ⟨k26, hk26, hm⟩ := bindS hm
              have hRk26 : ∀ t, k26 = .inr t → some t = some k18 := fun t e => by rw [e] at hm; exact hm
              refine lj_join (σ := Bool) (γ := Unit) (fun u24 => k26 = .inl u24) (fun u24 g25 => [(0, s0_.v), (2, .int .i64 a2), (6, .slice none 0 0), (7, g17.v), (9, .pointer (some ⟨b10, 0, none⟩)), (10, .int .i64 u11.1), (11, .int .i64 u16.1), (12, s1_.v), (13, .int .i64 (a1.length : Int)), (14, .int .i64 (i1 : Int)), (52, .bool u24)]) (fun u24 g25 => Sat w0 (keys ([] : List Ent)) A [.box b10 158 [.int .i64 x2.from_, .int .i64 x2.to_, .int .i64 x2.times], .ro (RdS R54 (SV.v s0_) a0), .ro (RdS R158 (SV.v s1_) a1), .row R3 (SV.v g17) u16.2]) (fun u24 g25 hq => ?_) (fun J cnk26 => ?_)
              · have hm := Sum.fin_l hq hm
                refine cj_if (b := u24) rfl (fun hb => ?_) (fun hb => ?_)
                · have hm := ifB_t hb hm
                  refine cj_reg ?_
                  refine lp rfl (p_mv rfl) ?_
                  refine lp rfl (p_mv rfl) ?_
                  refine r_bs R3 [u16.1] rfl rfl rfl (fun _ => by kernel_rfl) rfl (fun s29 => ?_)
                  obtain ⟨q30, hq30, hm⟩ := bindS hm
                  refine r_app (k := 4) Tryz.underlying22 ty3 rfl rfl rfl rfl (.row 0 rfl) hq30 rfl (fun s31 => ?_)
                  refine lp rfl (p_as rfl) ?_
                  refine lj_nil ?_
                  refine nj_blk ?_
                  refine nj_seq ?_
                  refine cj_reg ?_
                  refine lp rfl (p_mv rfl) ?_
                  refine lp rfl (p_add rfl rfl) ?_
                  refine lp rfl (p_as rfl) ?_
                  refine lj_nil ?_
                  exact cnk18 _ _ (w64 (u16.1 + 1), q30) s31 (hJk18 _ (Option.some.inj hm).symm) ⟨rfl, rfl, rfl, rfl, rfl, rfl, rfl, rfl, rfl, rfl, trivial⟩ (fun _ h => h.picks [1, 1, 1, 1] rfl)
                · have hm := ifB_f hb hm
                  refine cj_skip ?_
                  refine nj_blk ?_
                  refine nj_seq ?_
                  refine cj_reg ?_
                  refine lp rfl (p_mv rfl) ?_
                  refine lp rfl (p_add rfl rfl) ?_
                  refine lp rfl (p_as rfl) ?_
                  refine lj_nil ?_
                  exact cnk18 _ _ (w64 (u16.1 + 1), u16.2) g17 (hJk18 _ (Option.some.inj hm).symm) ⟨rfl, rfl, rfl, rfl, rfl, rfl, rfl, rfl, rfl, rfl, trivial⟩ (fun _ h => h.picks [0, 0, 0, 0] rfl)
              · have hm := hk26
                refine lp rfl (p_mv rfl) ?_
                refine lp rfl (p_mv rfl) ?_
                obtain ⟨e27, he27, hm⟩ := bindS hm
                refine lp rfl (p_idx Tryz.underlying55 ty54 rfl rfl (.ro 1 rfl) he27) ?_
                refine lp rfl (p_fae fl54_3 rfl (.ro 1 rfl) (getI_spec he27).2) ?_
                refine lp rfl (p_lde (o := 3) ty3 rfl rfl (.ro 1 rfl) (getI_spec he27).2 rfl) ?_
                refine lp rfl (p_eql rfl rfl) ?_
                refine lp rfl (p_mv rfl) ?_
                refine lcase (i := 44) (e27.Ending == 0) rfl (fun hb => ?_) (fun hb => ?_)
                · have hm := ifB_t hb hm
                  refine ls false rfl rfl rfl rfl ?_
                  refine ls false rfl rfl rfl rfl ?_
                  refine ls false rfl rfl rfl rfl ?_
                  refine ls false rfl rfl rfl rfl ?_
                  refine ls false rfl rfl rfl rfl ?_
                  refine ls false rfl rfl rfl rfl ?_
                  refine ls false rfl rfl rfl rfl ?_
                  refine lp rfl (p_pkt rfl rfl) ?_
                  refine lj_nil ?_
                  exact cnk26 _ _ true () (Option.some.inj hm).symm ⟨rfl, rfl, rfl, rfl, rfl, rfl, rfl, rfl, rfl, rfl, rfl, trivial⟩ (fun _ h => h.picks [0, 0, 0, 0] rfl)
                · have hm := ifB_f hb hm
                  refine lg false rfl rfl rfl ?_
                  refine lp rfl (p_mv rfl) ?_
                  refine lg false rfl rfl rfl ?_
                  refine lp rfl (p_mv rfl) ?_
                  refine lg false rfl rfl rfl ?_
                  obtain ⟨e28, he28, hm⟩ := bindS hm
                  refine lp rfl (p_idx Tryz.underlying55 ty54 rfl rfl (.ro 1 rfl) he28) ?_
                  refine lg false rfl rfl rfl ?_
                  refine lp rfl (p_fae fl54_3 rfl (.ro 1 rfl) (getI_spec he28).2) ?_
                  refine lg false rfl rfl rfl ?_
                  refine lp rfl (p_lde (o := 3) ty3 rfl rfl (.ro 1 rfl) (getI_spec he28).2 rfl) ?_
                  refine lg false rfl rfl rfl ?_
                  refine lp rfl (p_mv rfl) ?_
                  refine lg false rfl rfl rfl ?_
                  refine lp rfl (p_eql rfl rfl) ?_
                  refine lp rfl (p_pkf rfl rfl) ?_
                  refine lj_nil ?_
                  exact cnk26 _ _ (e28.Ending == u11.1) () (Option.some.inj hm).symm ⟨rfl, rfl, rfl, rfl, rfl, rfl, rfl, rfl, rfl, rfl, rfl, trivial⟩ (fun _ h => h.picks [0, 0, 0, 0] rfl)
            · have hm := ifB_f hb hm
              refine cj_exit rfl ?_
              exact (aftk18 (u16.1, u16.2) g17 (hBk18 _ (Option.some.inj hm).symm)).sub ⟨rfl, rfl, rfl, rfl, rfl, rfl, rfl, rfl, rfl, rfl, trivial⟩ (fun _ h => h.picks [0, 0, 0, 0] rfl)
          · have hm := hk23
            refine lp rfl (p_mv rfl) ?_
            refine lp rfl (p_fab fl158_1 rfl) ?_
            refine lp rfl (p_lbs ty3 rfl (j := 0) rfl rfl) ?_
            refine lp rfl (p_lss rfl rfl) ?_
            refine lp rfl (p_mv rfl) ?_
            refine lcase (i := 30) (decide (u16.1 < x2.to_)) rfl (fun hb => ?_) (fun hb => ?_)
            · have hm := ifB_t hb hm
              refine lg true rfl rfl rfl ?_
              refine lp rfl (p_mv rfl) ?_
              refine lg true rfl rfl rfl ?_
              refine lp rfl (p_len Tryz.underlying22 rfl (.row 3 rfl)) ?_
              refine lg true rfl rfl rfl ?_
              refine lp rfl (p_mv rfl) ?_
              refine lg true rfl rfl rfl ?_
              refine lp rfl (p_leq rfl rfl) ?_
              refine lp rfl (p_pkt rfl rfl) ?_
              refine lj_nil ?_
              exact cnk23 _ _ (decide ((u16.2.length : Int) ≤ a2)) () (Option.some.inj hm).symm ⟨rfl, rfl, rfl, rfl, rfl, rfl, rfl, rfl, rfl, rfl, rfl, trivial⟩ (fun _ h => h.picks [0, 0, 0, 0] rfl)
            · have hm := ifB_f hb hm
              refine ls true rfl rfl rfl rfl ?_
              refine ls true rfl rfl rfl rfl ?_
              refine ls true rfl rfl rfl rfl ?_
              refine ls true rfl rfl rfl rfl ?_
              refine lp rfl (p_pkf rfl rfl) ?_
              refine lj_nil ?_
              exact cnk23 _ _ false () (Option.some.inj hm).symm ⟨rfl, rfl, rfl, rfl, rfl, rfl, rfl, rfl, rfl, rfl, rfl, trivial⟩ (fun _ h => h.picks [0, 0, 0, 0] rfl)
      · have hm := ifB_f hb hm
        refine cj_exit rfl ?_
        exact (aftk13 (u11.1, u11.2) g12 (hBk13 _ (Option.some.inj hm).symm)).sub ⟨rfl, rfl, rfl, rfl, rfl, rfl, rfl, rfl, rfl, trivial⟩ (fun _ h => h.picks [0, 0, 0, 0] rfl)
theorem ok_piece_CheckBars (s0_ : SV) (a0 : (List TBar)) {r : Int} (hm : m_piece_CheckBars a0 = some r) :
    Ctr Tryz.prog 44 [s0_.v].toArray ([] : List Ent) [RdS R54 (SV.v s0_) a0] (X := Unit) (fun _ => .int .i64 r) (fun _ => []) := by
  unfold m_piece_CheckBars at hm
  refine ctr_mk (vs := [(0, s0_.v)]) Tryz.func44 rfl Tryz.ntmps44 rfl ⟨rfl, trivial⟩ (fun w0 A => ?_)
  refine cj_seq ?_
  refine cj_reg ?_
  refine lp rfl (p_as rfl) ?_
  refine lj_seq ?_
  refine cj_seq ?_
  refine cj_seq ?_
  refine cj_reg ?_
  refine lp rfl (p_mv rfl) ?_
  refine lp rfl (p_len Tryz.underlying55 rfl (.ro 0 rfl)) ?_
  refine lp rfl (p_eql rfl rfl) ?_
  refine lj_seq ?_
  refine cj_if (b := (a0.length : Int) == 0) rfl (fun hb => ?_) (fun hb => ?_)
  · have hm := ifB_t hb hm
    refine cj_seq ?_
    refine cj_reg ?_
    refine lp rfl (p_as rfl) ?_
    refine lj_seq ?_
    obtain rfl := Option.some.inj hm
    exact cj_rt () [] Tryz.results44 (.tmp rfl .nil) rfl rfl
  · have hm := ifB_f hb hm
    refine cj_skip ?_
    refine nj_seq ?_
    refine cj_seq ?_
    refine cj_seq ?_
    refine cj_reg ?_
    refine lp rfl (p_mv rfl) ?_
    refine lp rfl (p_len Tryz.underlying55 rfl (.ro 0 rfl)) ?_
    refine lp rfl (p_gtr rfl rfl) ?_
    refine lj_seq ?_
    refine cj_if (b := decide ((a0.length : Int) > 300)) rfl (fun hb => ?_) (fun hb => ?_)
    · have hm := ifB_t hb hm
      refine cj_seq ?_
      refine cj_reg ?_
      refine lp rfl (p_as rfl) ?_
      refine lj_seq ?_
      obtain rfl := Option.some.inj hm
      exact cj_rt () [] Tryz.results44 (.tmp rfl .nil) rfl rfl
    · have hm := ifB_f hb hm
      refine cj_skip ?_
      refine nj_seq ?_
      refine cj_seq ?_
      refine cj_seq ?_
      refine cj_reg ?_
      refine lp rfl (p_mv rfl) ?_
      obtain ⟨y1, hy1, hm⟩ := bindS hm
      refine r_call [] cf68 rfl rfl (ok_piece_rulesFault s0_ a0 hy1) rfl rfl (.cons (.ro 0 rfl) .nil) (fun _ => rfl) rfl (fun _ => ?_)
      refine lp rfl (p_as rfl) ?_
      refine lj_seq ?_
      refine cj_seq ?_
      refine cj_reg ?_
      refine lp rfl (p_mv rfl) ?_
      refine lp rfl (p_neq rfl rfl) ?_
      refine lj_seq ?_
      refine cj_if (b := y1 != 0) rfl (fun hb => ?_) (fun hb => ?_)
      · have hm := ifB_t hb hm
        refine cj_seq ?_
        refine cj_reg ?_
        refine lp rfl (p_mv rfl) ?_
        refine lp rfl (p_as rfl) ?_
        refine lj_seq ?_
        obtain rfl := Option.some.inj hm
        exact cj_rt () [] Tryz.results44 (.tmp rfl .nil) rfl rfl
      · have hm := ifB_f hb hm
        refine cj_skip ?_
        refine nj_seq ?_
        refine cj_seq ?_
        refine cj_reg ?_
        refine lp rfl (p_mv rfl) ?_
        obtain ⟨y2, hy2, hm⟩ := bindS hm
        refine r_call [] cf69 rfl rfl (ok_piece_repeats s0_ a0 hy2) rfl rfl (.cons (.ro 0 rfl) .nil) (fun _ => rfl) rfl (fun s3 => ?_)
        refine lp rfl (p_mv rfl) ?_
        refine lp rfl (p_ext rfl rfl) ?_
        refine lp rfl (p_ext rfl rfl) ?_
        refine lp rfl (p_as rfl) ?_
        refine lp rfl (p_as rfl) ?_
        refine lj_seq ?_
        refine cj_seq ?_
        refine cj_seq ?_
        refine cj_reg ?_
        refine lp rfl (p_mv rfl) ?_
        refine lp rfl (p_not rfl) ?_
        refine lj_seq ?_
        refine cj_if (b := !y2.2) rfl (fun hb => ?_) (fun hb => ?_)
        · have hm := ifB_t hb hm
          refine cj_seq ?_
          refine cj_reg ?_
          refine lp rfl (p_as rfl) ?_
          refine lj_seq ?_
          obtain rfl := Option.some.inj hm
          exact cj_rt () [] Tryz.results44 (.tmp rfl .nil) rfl rfl
        · have hm := ifB_f hb hm
          refine cj_skip ?_
          refine nj_seq ?_
          refine cj_seq ?_
          refine cj_seq ?_
          refine cj_reg ?_
          refine lp rfl (p_mv rfl) ?_
          refine lp rfl (p_mv rfl) ?_
          obtain ⟨y4, hy4, hm⟩ := bindS hm
          refine r_call [] cf70 rfl rfl (ok_piece_order s0_ a0 s3 y2.1 2000 hy4) rfl rfl (.cons (.ro 1 rfl) (.cons (.row 0 rfl) .nil)) (fun _ => rfl) rfl (fun s5 => ?_)
          refine lp rfl (p_len Tryz.underlying22 rfl (.row 0 rfl)) ?_
          refine lp rfl (p_gtr rfl rfl) ?_
          refine lj_seq ?_
          refine cj_if (b := decide ((y4.length : Int) > 2000)) rfl (fun hb => ?_) (fun hb => ?_)
          · have hm := ifB_t hb hm
            refine cj_seq ?_
            refine cj_reg ?_
            refine lp rfl (p_as rfl) ?_
            refine lj_seq ?_
            obtain rfl := Option.some.inj hm
            exact cj_rt () [] Tryz.results44 (.tmp rfl .nil) rfl rfl
          · have hm := ifB_f hb hm
            refine cj_skip ?_
            refine nj_seq ?_
            refine cj_seq ?_
            refine cj_reg ?_
            refine lp rfl (p_as rfl) ?_
            refine lj_seq ?_
            obtain rfl := Option.some.inj hm
            exact cj_rt () [] Tryz.results44 (.tmp rfl .nil) rfl rfl
theorem ok_piece_played (s0_ : SV) (a0 : (List TBar)) {r : (List Int)} (hm : m_piece_played a0 = some r) :
    Ctr Tryz.prog 45 [s0_.v].toArray ([] : List Ent) [RdS R54 (SV.v s0_) a0] (X := SV) (fun s => s.v) (fun s => [.row R3 (SV.v s) r]) := by
  unfold m_piece_played at hm
  refine ctr_mk (vs := [(0, s0_.v)]) Tryz.func45 rfl Tryz.ntmps45 rfl ⟨rfl, trivial⟩ (fun w0 A => ?_)
  refine cj_seq ?_
  refine cj_reg ?_
  refine lp rfl (p_as rfl) ?_
  refine lj_seq ?_
  refine cj_seq ?_
  refine cj_reg ?_
  refine lp rfl (p_mv rfl) ?_
  obtain ⟨y1, hy1, hm⟩ := bindS hm
  refine r_call [] cf69 rfl rfl (ok_piece_repeats s0_ a0 hy1) rfl rfl (.cons (.ro 0 rfl) .nil) (fun _ => rfl) rfl (fun s2 => ?_)
  refine lp rfl (p_mv rfl) ?_
  refine lp rfl (p_ext rfl rfl) ?_
  refine lp rfl (p_ext rfl rfl) ?_
  refine lp rfl (p_as rfl) ?_
  refine lp rfl (p_as rfl) ?_
  refine lj_seq ?_
  refine cj_seq ?_
  refine cj_reg ?_
  refine lp rfl (p_mv rfl) ?_
  refine lp rfl (p_mv rfl) ?_
  obtain ⟨y3, hy3, hm⟩ := bindS hm
  refine r_call [] cf70 rfl rfl (ok_piece_order s0_ a0 s2 y1.1 2000 hy3) rfl rfl (.cons (.ro 1 rfl) (.cons (.row 0 rfl) .nil)) (fun _ => rfl) rfl (fun s4 => ?_)
  refine lp rfl (p_as rfl) ?_
  refine lj_seq ?_
  obtain rfl := Option.some.inj hm
  exact cj_rt s4 [0] Tryz.results45 (.tmp rfl .nil) rfl rfl
theorem ok_piece_Order (s0_ : SV) (a0 : (List TBar)) {r : (List Int) × Int} (hm : m_piece_Order a0 = some r) :
    Ctr Tryz.prog 25 [s0_.v].toArray ([] : List Ent) [RdS R54 (SV.v s0_) a0] (X := SV) (fun s => .tuple [s.v, .int .i64 r.2].toArray) (fun s => [.row R3 (SV.v s) r.1]) := by
  unfold m_piece_Order at hm
  refine ctr_mk (vs := [(0, s0_.v)]) Tryz.func25 rfl Tryz.ntmps25 rfl ⟨rfl, trivial⟩ (fun w0 A => ?_)
  refine cj_seq ?_
  refine cj_reg ?_
  refine lp rfl (p_as rfl) ?_
  refine lp rfl (p_as rfl) ?_
  refine lj_seq ?_
  refine cj_seq ?_
  refine cj_seq ?_
  refine cj_reg ?_
  refine lp rfl (p_mv rfl) ?_
  obtain ⟨y1, hy1, hm⟩ := bindS hm
  refine r_call [] cf44 rfl rfl (ok_piece_CheckBars s0_ a0 hy1) rfl rfl (.cons (.ro 0 rfl) .nil) (fun _ => rfl) rfl (fun _ => ?_)
  refine lp rfl (p_as rfl) ?_
  refine lj_seq ?_
  refine cj_seq ?_
  refine cj_reg ?_
  refine lp rfl (p_mv rfl) ?_
  refine lp rfl (p_neq rfl rfl) ?_
  refine lj_seq ?_
  refine cj_if (b := y1 != 0) rfl (fun hb => ?_) (fun hb => ?_)
  · have hm := ifB_t hb hm
    refine cj_seq ?_
    refine cj_reg ?_
    refine lp rfl (p_mv rfl) ?_
    refine lp rfl (p_as rfl) ?_
    refine lp rfl (p_as rfl) ?_
    refine lj_seq ?_
    obtain rfl := Option.some.inj hm
    refine cj_nil R3 ?_
    exact cj_rt nilS [0] Tryz.results25 (.tmp rfl (.tmp rfl .nil)) rfl rfl
  · have hm := ifB_f hb hm
    refine cj_skip ?_
    refine nj_seq ?_
    refine cj_seq ?_
    refine cj_reg ?_
    refine lp rfl (p_mv rfl) ?_
    obtain ⟨y3, hy3, hm⟩ := bindS hm
    refine r_call [] cf45 rfl rfl (ok_piece_played s0_ a0 hy3) rfl rfl (.cons (.ro 0 rfl) .nil) (fun _ => rfl) rfl (fun s4 => ?_)
    refine lp rfl (p_as rfl) ?_
    refine lp rfl (p_as rfl) ?_
    refine lj_seq ?_
    obtain rfl := Option.some.inj hm
    exact cj_rt s4 [0] Tryz.results25 (.tmp rfl (.tmp rfl .nil)) rfl rfl
theorem ok_chord_rootWords  {r : (List ByteArray)} (hm : m_chord_rootWords  = some r) :
    Ctr Tryz.prog 29 [].toArray ([] : List Ent) [] (X := SV) (fun s => s.v) (fun s => [.row R9 (SV.v s) r]) := by
  unfold m_chord_rootWords at hm
  refine ctr_mk (vs := []) Tryz.func29 rfl Tryz.ntmps29 rfl trivial (fun w0 A => ?_)
  refine cj_seq ?_
  refine cj_reg ?_
  refine lp rfl (p_as rfl) ?_
  refine lj_seq ?_
  refine cj_seq ?_
  refine cj_reg ?_
  refine r_bs R9 [(ByteArray.mk [99].toArray), (ByteArray.mk [99, 35].toArray), (ByteArray.mk [100].toArray), (ByteArray.mk [100, 35].toArray), (ByteArray.mk [101].toArray), (ByteArray.mk [102].toArray), (ByteArray.mk [102, 35].toArray), (ByteArray.mk [103].toArray), (ByteArray.mk [103, 35].toArray), (ByteArray.mk [97].toArray), (ByteArray.mk [97, 35].toArray), (ByteArray.mk [98].toArray)] rfl rfl rfl (fun _ => by kernel_rfl) rfl (fun s1 => ?_)
  refine lp rfl (p_as rfl) ?_
  refine lj_seq ?_
  obtain rfl := Option.some.inj hm
  exact cj_rt s1 [0] Tryz.results29 (.tmp rfl .nil) rfl rfl
theorem ok_chord_kindWords  {r : (List ByteArray)} (hm : m_chord_kindWords  = some r) :
    Ctr Tryz.prog 30 [].toArray ([] : List Ent) [] (X := SV) (fun s => s.v) (fun s => [.row R9 (SV.v s) r]) := by
  unfold m_chord_kindWords at hm
  refine ctr_mk (vs := []) Tryz.func30 rfl Tryz.ntmps30 rfl trivial (fun w0 A => ?_)
  refine cj_seq ?_
  refine cj_reg ?_
  refine lp rfl (p_as rfl) ?_
  refine lj_seq ?_
  refine cj_seq ?_
  refine cj_reg ?_
  refine r_bs R9 [ByteArray.empty, (ByteArray.mk [109, 97, 106].toArray), (ByteArray.mk [109, 105, 110].toArray), (ByteArray.mk [100, 105, 109].toArray), (ByteArray.mk [97, 117, 103].toArray), (ByteArray.mk [55].toArray), (ByteArray.mk [109, 97, 106, 55].toArray), (ByteArray.mk [109, 105, 110, 55].toArray)] rfl rfl rfl (fun _ => by kernel_rfl) rfl (fun s1 => ?_)
  refine lp rfl (p_as rfl) ?_
  refine lj_seq ?_
  obtain rfl := Option.some.inj hm
  exact cj_rt s1 [0] Tryz.results30 (.tmp rfl .nil) rfl rfl
theorem ok_chord_Name (a0 : TChord) {r : ByteArray × Int} (hm : m_chord_Name a0 = some r) :
    Ctr Tryz.prog 8 [.agg (R27.enc a0).toArray].toArray ([] : List Ent) [PowT] (X := Unit) (fun _ => .tuple [.string r.1, .int .i64 r.2].toArray) (fun _ => []) := by
  unfold m_chord_Name at hm
  refine ctr_mk (vs := [(0, .agg (R27.enc a0).toArray)]) Tryz.func8 rfl Tryz.ntmps8 rfl ⟨rfl, trivial⟩ (fun w0 A => ?_)
  refine cj_seq ?_
  refine cj_reg ?_
  refine r_bx (cs := [.int .i64 a0.Root, .int .i64 a0.Kind, .int .i64 a0.Turn]) rfl rfl rfl (fun b1 => ?_)
  refine lp rfl (p_as rfl) ?_
  refine lp rfl (p_as rfl) ?_
  refine lj_seq ?_
  refine cj_seq ?_
  refine cj_seq ?_
  refine cj_reg ?_
  refine lp rfl (p_lbw ty27 rfl (j := 0) rfl rfl) ?_
  obtain ⟨y2, hy2, hm⟩ := bindS hm
  refine r_call [] cf6 rfl rfl (ok_chord_CheckChord a0 hy2) rfl rfl .nil (fun _ => rfl) rfl (fun _ => ?_)
  refine lp rfl (p_as rfl) ?_
  refine lj_seq ?_
  refine cj_seq ?_
  refine cj_reg ?_
  refine lp rfl (p_mv rfl) ?_
  refine lp rfl (p_neq rfl rfl) ?_
  refine lj_seq ?_
  refine cj_if (b := y2 != 0) rfl (fun hb => ?_) (fun hb => ?_)
  · have hm := ifB_t hb hm
    refine cj_seq ?_
    refine cj_reg ?_
    refine lp rfl (p_mv rfl) ?_
    refine lp rfl (p_as rfl) ?_
    refine lp rfl (p_as rfl) ?_
    refine lj_seq ?_
    obtain rfl := Option.some.inj hm
    exact cj_rt () [] Tryz.results8 (.tmp rfl (.tmp rfl .nil)) rfl rfl
  · have hm := ifB_f hb hm
    refine cj_skip ?_
    refine nj_seq ?_
    refine cj_seq ?_
    obtain ⟨k5, hk5, hm⟩ := bindS hm
    have hRk5 : ∀ t, k5 = .inr t → some t = some r := fun t e => by rw [e] at hm; exact hm
    refine cj_joinK (σ := ByteArray) (γ := Unit) (fun u3 => k5 = .inl u3) (fun u3 g4 => [(1, .pointer (some ⟨b1, 0, none⟩)), (2, .string ByteArray.empty), (3, .int .i64 0), (5, .string u3)]) (fun u3 g4 => Sat w0 (keys ([] : List Ent)) A [.box b1 27 [.int .i64 a0.Root, .int .i64 a0.Kind, .int .i64 a0.Turn], .ro PowT]) (fun u3 g4 hq => ?_) (fun J cnk5 => ?_)
    · have hm := Sum.fin_l hq hm
      refine cj_seq ?_
      refine cj_seq ?_
      refine cj_reg ?_
      refine lp rfl (p_fab fl27_2 rfl) ?_
      refine lp rfl (p_lbs ty3 rfl (j := 0) rfl rfl) ?_
      refine lp rfl (p_gtr rfl rfl) ?_
      refine lj_seq ?_
      refine cj_if (b := decide (a0.Turn > 0)) rfl (fun hb => ?_) (fun hb => ?_)
      · have hm := ifB_t hb hm
        refine cj_reg ?_
        refine lp rfl (p_mv rfl) ?_
        refine lp rfl (p_fab fl27_2 rfl) ?_
        refine lp rfl (p_lbs ty3 rfl (j := 0) rfl rfl) ?_
        obtain ⟨y18, hy18, hm⟩ := bindS hm
        refine r_call [] cf31 rfl rfl (ok_strconv_Itoa a0.Turn hy18) rfl rfl (.cons (.ro 1 rfl) .nil) (fun _ => rfl) rfl (fun _ => ?_)
        obtain ⟨c19, hc19, hm⟩ := bindS hm
        refine lp rfl (p_catM hc19 rfl rfl) ?_
        obtain ⟨c20, hc20, hm⟩ := bindS hm
        refine lp rfl (p_catM hc20 rfl rfl) ?_
        refine lp rfl (p_as rfl) ?_
        refine lj_seq ?_
        refine cj_seq ?_
        refine cj_reg ?_
        refine lp rfl (p_mv rfl) ?_
        refine lp rfl (p_as rfl) ?_
        refine lp rfl (p_as rfl) ?_
        refine lj_seq ?_
        obtain rfl := Option.some.inj hm
        exact cj_rt () [] Tryz.results8 (.tmp rfl (.tmp rfl .nil)) rfl rfl
      · have hm := ifB_f hb hm
        refine cj_skip ?_
        refine nj_seq ?_
        refine cj_seq ?_
        refine cj_reg ?_
        refine lp rfl (p_mv rfl) ?_
        refine lp rfl (p_as rfl) ?_
        refine lp rfl (p_as rfl) ?_
        refine lj_seq ?_
        obtain rfl := Option.some.inj hm
        exact cj_rt () [] Tryz.results8 (.tmp rfl (.tmp rfl .nil)) rfl rfl
    · have hm := hk5
      obtain ⟨y6, hy6, hm⟩ := bindS hm
      obtain ⟨e8, he8, hm⟩ := bindS hm
      obtain ⟨c9, hc9, hm⟩ := bindS hm
      obtain ⟨y10, hy10, hm⟩ := bindS hm
      obtain ⟨e12, he12, hm⟩ := bindS hm
      obtain ⟨c13, hc13, hm⟩ := bindS hm
      refine cj_anyT [1, 2, 5, 7, 8, 11, 12] [] (Sat w0 (keys ([] : List Ent)) A [.box b1 27 [.int .i64 a0.Root, .int .i64 a0.Kind, .int .i64 a0.Turn], .ro PowT]) (Sat w0 (keys ([] : List Ent)) A [.box b1 27 [.int .i64 a0.Root, .int .i64 a0.Kind, .int .i64 a0.Turn], .ro PowT]) (by kernel_rfl) ?_
      refine at_take2 1 rfl (by kernel_rfl) (by kernel_rfl) (by kernel_rfl) (fun _ h => h.picks [0, 0] rfl) rfl rfl (p_fab fl27_0 rfl) (fun _ h => h.picks [0, 0] rfl) ?_
      refine at_take2 2 rfl (by kernel_rfl) (by kernel_rfl) (by kernel_rfl) (fun _ h => h.picks [0, 0] rfl) rfl rfl (p_lbs ty3 rfl (j := 0) rfl rfl) (fun _ h => h.picks [0, 0] rfl) ?_
      refine at_take2 7 rfl (by kernel_rfl) (by kernel_rfl) (by kernel_rfl) (fun _ h => h.picks [0, 0] rfl) rfl rfl (p_fab fl27_1 rfl) (fun _ h => h.picks [0, 0] rfl) ?_
      refine at_take2 8 rfl (by kernel_rfl) (by kernel_rfl) (by kernel_rfl) (fun _ h => h.picks [0, 0] rfl) rfl rfl (p_lbs ty3 rfl (j := 0) rfl rfl) (fun _ h => h.picks [0, 0] rfl) ?_
      refine at_each (rs := [0]) (by kernel_rfl) (by decide) ?_
      refine (.cons rfl (fun I cnI => ?_) .nil)
      · refine r_call [] cf29 rfl rfl (ok_chord_rootWords  hy6) rfl rfl .nil (fun _ => rfl) rfl (fun s14 => ?_)
        refine lj_nil ?_
        refine cnI _ _ (sof1 rfl rfl (fun _ h => h.picks [1, 1] rfl)) ?_
        refine at_each (rs := [3, 6]) (by kernel_rfl) (by decide) ?_
        refine (.cons rfl (fun I cnI => ?_) (.cons rfl (fun I cnI => ?_) .nil))
        · refine lp rfl (p_idx Tryz.underlying56 ty9 rfl rfl (.row 0 rfl) he8) ?_
          refine lj_nil ?_
          refine cnI _ _ (sof1 rfl rfl (fun _ h => h.picks [1, 1] rfl)) ?_
          refine at_each (rs := [4, 6]) (by kernel_rfl) (by decide) ?_
          refine (.cons rfl (fun I cnI => ?_) (.cons rfl (fun I cnI => ?_) .nil))
          · refine lp rfl (p_lde (o := 0) ty9 rfl rfl (.row 0 rfl) (getI_spec he8).2 rfl) ?_
            refine lj_nil ?_
            refine cnI _ _ (sof1 rfl rfl (fun _ h => h.picks [1, 1] rfl)) ?_
            refine at_take2 5 rfl (by kernel_rfl) (by kernel_rfl) (by kernel_rfl) (fun _ h => h.picks [0, 0] rfl) rfl rfl (p_catM hc9 rfl rfl) (fun _ h => h.picks [1, 1] rfl) ?_
            refine at_each (rs := [6]) (by kernel_rfl) (by decide) ?_
            refine (.cons rfl (fun I cnI => ?_) .nil)
            · refine r_call [] cf30 rfl rfl (ok_chord_kindWords  hy10) rfl rfl .nil (fun _ => rfl) rfl (fun s15 => ?_)
              refine lj_nil ?_
              refine cnI _ _ (sof1 rfl rfl (fun _ h => h.picks [2, 2] rfl)) ?_
              refine at_each (rs := [9]) (by kernel_rfl) (by decide) ?_
              refine (.cons rfl (fun I cnI => ?_) .nil)
              · refine lp rfl (p_idx Tryz.underlying56 ty9 rfl rfl (.row 0 rfl) he12) ?_
                refine lj_nil ?_
                refine cnI _ _ (sof1 rfl rfl (fun _ h => h.picks [2, 2] rfl)) ?_
                refine at_each (rs := [10]) (by kernel_rfl) (by decide) ?_
                refine (.cons rfl (fun I cnI => ?_) .nil)
                · refine lp rfl (p_lde (o := 0) ty9 rfl rfl (.row 0 rfl) (getI_spec he12).2 rfl) ?_
                  refine lj_nil ?_
                  refine cnI _ _ (sof1 rfl rfl (fun _ h => h.picks [2, 2] rfl)) ?_
                  refine at_take2 11 rfl (by kernel_rfl) (by kernel_rfl) (by kernel_rfl) (fun _ h => h.picks [0, 0] rfl) rfl rfl (p_catM hc13 rfl rfl) (fun _ h => h.picks [2, 2] rfl) ?_
                  refine at_take2 12 rfl (by kernel_rfl) (by kernel_rfl) (by kernel_rfl) (fun _ h => h.picks [0, 0] rfl) rfl rfl (p_as rfl) (fun _ h => h.picks [2, 2] rfl) ?_
                  refine at_done (by kernel_rfl) ?_
                  exact cnk5 _ _ c13 () (Option.some.inj hm).symm ⟨rfl, rfl, rfl, rfl, trivial⟩ (fun _ h => h.picks [2, 2] rfl)
          · refine r_call [] cf30 rfl rfl (ok_chord_kindWords  hy10) rfl rfl .nil (fun _ => rfl) rfl (fun s16 => ?_)
            refine lj_nil ?_
            refine cnI _ _ (sof1 rfl rfl (fun _ h => h.picks [2, 2] rfl)) ?_
            refine at_each (rs := [4, 9]) (by kernel_rfl) (by decide) ?_
            refine (.cons rfl (fun I cnI => ?_) (.cons rfl (fun I cnI => ?_) .nil))
            · refine lp rfl (p_lde (o := 0) ty9 rfl rfl (.row 1 rfl) (getI_spec he8).2 rfl) ?_
              refine lj_nil ?_
              refine cnI _ _ (sof1 rfl rfl (fun _ h => h.picks [2, 2] rfl)) ?_
              refine at_take2 5 rfl (by kernel_rfl) (by kernel_rfl) (by kernel_rfl) (fun _ h => h.picks [0, 0] rfl) rfl rfl (p_catM hc9 rfl rfl) (fun _ h => h.picks [2, 2] rfl) ?_
              refine at_each (rs := [9]) (by kernel_rfl) (by decide) ?_
              refine (.cons rfl (fun I cnI => ?_) .nil)
              · refine lp rfl (p_idx Tryz.underlying56 ty9 rfl rfl (.row 0 rfl) he12) ?_
                refine lj_nil ?_
                refine cnI _ _ (sof1 rfl rfl (fun _ h => h.picks [2, 2] rfl)) ?_
                refine at_each (rs := [10]) (by kernel_rfl) (by decide) ?_
                refine (.cons rfl (fun I cnI => ?_) .nil)
                · refine lp rfl (p_lde (o := 0) ty9 rfl rfl (.row 0 rfl) (getI_spec he12).2 rfl) ?_
                  refine lj_nil ?_
                  refine cnI _ _ (sof1 rfl rfl (fun _ h => h.picks [2, 2] rfl)) ?_
                  refine at_take2 11 rfl (by kernel_rfl) (by kernel_rfl) (by kernel_rfl) (fun _ h => h.picks [0, 0] rfl) rfl rfl (p_catM hc13 rfl rfl) (fun _ h => h.picks [2, 2] rfl) ?_
                  refine at_take2 12 rfl (by kernel_rfl) (by kernel_rfl) (by kernel_rfl) (fun _ h => h.picks [0, 0] rfl) rfl rfl (p_as rfl) (fun _ h => h.picks [2, 2] rfl) ?_
                  refine at_done (by kernel_rfl) ?_
                  exact cnk5 _ _ c13 () (Option.some.inj hm).symm ⟨rfl, rfl, rfl, rfl, trivial⟩ (fun _ h => h.picks [2, 2] rfl)
            · refine lp rfl (p_idx Tryz.underlying56 ty9 rfl rfl (.row 0 rfl) he12) ?_
              refine lj_nil ?_
              refine cnI _ _ (sof1 rfl rfl (fun _ h => h.picks [2, 2] rfl)) ?_
              refine at_each (rs := [4, 10]) (by kernel_rfl) (by decide) ?_
              refine (.cons rfl (fun I cnI => ?_) (.cons rfl (fun I cnI => ?_) .nil))
              · refine lp rfl (p_lde (o := 0) ty9 rfl rfl (.row 1 rfl) (getI_spec he8).2 rfl) ?_
                refine lj_nil ?_
                refine cnI _ _ (sof1 rfl rfl (fun _ h => h.picks [2, 2] rfl)) ?_
                refine at_take2 5 rfl (by kernel_rfl) (by kernel_rfl) (by kernel_rfl) (fun _ h => h.picks [0, 0] rfl) rfl rfl (p_catM hc9 rfl rfl) (fun _ h => h.picks [2, 2] rfl) ?_
                refine at_each (rs := [10]) (by kernel_rfl) (by decide) ?_
                refine (.cons rfl (fun I cnI => ?_) .nil)
                · refine lp rfl (p_lde (o := 0) ty9 rfl rfl (.row 0 rfl) (getI_spec he12).2 rfl) ?_
                  refine lj_nil ?_
                  refine cnI _ _ (sof1 rfl rfl (fun _ h => h.picks [2, 2] rfl)) ?_
                  refine at_take2 11 rfl (by kernel_rfl) (by kernel_rfl) (by kernel_rfl) (fun _ h => h.picks [0, 0] rfl) rfl rfl (p_catM hc13 rfl rfl) (fun _ h => h.picks [2, 2] rfl) ?_
                  refine at_take2 12 rfl (by kernel_rfl) (by kernel_rfl) (by kernel_rfl) (fun _ h => h.picks [0, 0] rfl) rfl rfl (p_as rfl) (fun _ h => h.picks [2, 2] rfl) ?_
                  refine at_done (by kernel_rfl) ?_
                  exact cnk5 _ _ c13 () (Option.some.inj hm).symm ⟨rfl, rfl, rfl, rfl, trivial⟩ (fun _ h => h.picks [2, 2] rfl)
              · refine lp rfl (p_lde (o := 0) ty9 rfl rfl (.row 0 rfl) (getI_spec he12).2 rfl) ?_
                refine lj_nil ?_
                refine cnI _ _ (sof1 rfl rfl (fun _ h => h.picks [2, 2] rfl)) ?_
                refine at_each (rs := [4]) (by kernel_rfl) (by decide) ?_
                refine (.cons rfl (fun I cnI => ?_) .nil)
                · refine lp rfl (p_lde (o := 0) ty9 rfl rfl (.row 1 rfl) (getI_spec he8).2 rfl) ?_
                  refine lj_nil ?_
                  refine cnI _ _ (sof1 rfl rfl (fun _ h => h.picks [2, 2] rfl)) ?_
                  refine at_take2 5 rfl (by kernel_rfl) (by kernel_rfl) (by kernel_rfl) (fun _ h => h.picks [0, 0] rfl) rfl rfl (p_catM hc9 rfl rfl) (fun _ h => h.picks [2, 2] rfl) ?_
                  refine at_take2 11 rfl (by kernel_rfl) (by kernel_rfl) (by kernel_rfl) (fun _ h => h.picks [0, 0] rfl) rfl rfl (p_catM hc13 rfl rfl) (fun _ h => h.picks [2, 2] rfl) ?_
                  refine at_take2 12 rfl (by kernel_rfl) (by kernel_rfl) (by kernel_rfl) (fun _ h => h.picks [0, 0] rfl) rfl rfl (p_as rfl) (fun _ h => h.picks [2, 2] rfl) ?_
                  refine at_done (by kernel_rfl) ?_
                  exact cnk5 _ _ c13 () (Option.some.inj hm).symm ⟨rfl, rfl, rfl, rfl, trivial⟩ (fun _ h => h.picks [2, 2] rfl)
        · refine r_call [] cf30 rfl rfl (ok_chord_kindWords  hy10) rfl rfl .nil (fun _ => rfl) rfl (fun s17 => ?_)
          refine lj_nil ?_
          refine cnI _ _ (sof1 rfl rfl (fun _ h => h.picks [2, 2] rfl)) ?_
          refine at_each (rs := [3, 9]) (by kernel_rfl) (by decide) ?_
          refine (.cons rfl (fun I cnI => ?_) (.cons rfl (fun I cnI => ?_) .nil))
          · refine lp rfl (p_idx Tryz.underlying56 ty9 rfl rfl (.row 1 rfl) he8) ?_
            refine lj_nil ?_
            refine cnI _ _ (sof1 rfl rfl (fun _ h => h.picks [2, 2] rfl)) ?_
            refine at_each (rs := [4, 9]) (by kernel_rfl) (by decide) ?_
            refine (.cons rfl (fun I cnI => ?_) (.cons rfl (fun I cnI => ?_) .nil))
            · refine lp rfl (p_lde (o := 0) ty9 rfl rfl (.row 1 rfl) (getI_spec he8).2 rfl) ?_
              refine lj_nil ?_
              refine cnI _ _ (sof1 rfl rfl (fun _ h => h.picks [2, 2] rfl)) ?_
              refine at_take2 5 rfl (by kernel_rfl) (by kernel_rfl) (by kernel_rfl) (fun _ h => h.picks [0, 0] rfl) rfl rfl (p_catM hc9 rfl rfl) (fun _ h => h.picks [2, 2] rfl) ?_
              refine at_each (rs := [9]) (by kernel_rfl) (by decide) ?_
              refine (.cons rfl (fun I cnI => ?_) .nil)
              · refine lp rfl (p_idx Tryz.underlying56 ty9 rfl rfl (.row 0 rfl) he12) ?_
                refine lj_nil ?_
                refine cnI _ _ (sof1 rfl rfl (fun _ h => h.picks [2, 2] rfl)) ?_
                refine at_each (rs := [10]) (by kernel_rfl) (by decide) ?_
                refine (.cons rfl (fun I cnI => ?_) .nil)
                · refine lp rfl (p_lde (o := 0) ty9 rfl rfl (.row 0 rfl) (getI_spec he12).2 rfl) ?_
                  refine lj_nil ?_
                  refine cnI _ _ (sof1 rfl rfl (fun _ h => h.picks [2, 2] rfl)) ?_
                  refine at_take2 11 rfl (by kernel_rfl) (by kernel_rfl) (by kernel_rfl) (fun _ h => h.picks [0, 0] rfl) rfl rfl (p_catM hc13 rfl rfl) (fun _ h => h.picks [2, 2] rfl) ?_
                  refine at_take2 12 rfl (by kernel_rfl) (by kernel_rfl) (by kernel_rfl) (fun _ h => h.picks [0, 0] rfl) rfl rfl (p_as rfl) (fun _ h => h.picks [2, 2] rfl) ?_
                  refine at_done (by kernel_rfl) ?_
                  exact cnk5 _ _ c13 () (Option.some.inj hm).symm ⟨rfl, rfl, rfl, rfl, trivial⟩ (fun _ h => h.picks [2, 2] rfl)
            · refine lp rfl (p_idx Tryz.underlying56 ty9 rfl rfl (.row 0 rfl) he12) ?_
              refine lj_nil ?_
              refine cnI _ _ (sof1 rfl rfl (fun _ h => h.picks [2, 2] rfl)) ?_
              refine at_each (rs := [4, 10]) (by kernel_rfl) (by decide) ?_
              refine (.cons rfl (fun I cnI => ?_) (.cons rfl (fun I cnI => ?_) .nil))
              · refine lp rfl (p_lde (o := 0) ty9 rfl rfl (.row 1 rfl) (getI_spec he8).2 rfl) ?_
                refine lj_nil ?_
                refine cnI _ _ (sof1 rfl rfl (fun _ h => h.picks [2, 2] rfl)) ?_
                refine at_take2 5 rfl (by kernel_rfl) (by kernel_rfl) (by kernel_rfl) (fun _ h => h.picks [0, 0] rfl) rfl rfl (p_catM hc9 rfl rfl) (fun _ h => h.picks [2, 2] rfl) ?_
                refine at_each (rs := [10]) (by kernel_rfl) (by decide) ?_
                refine (.cons rfl (fun I cnI => ?_) .nil)
                · refine lp rfl (p_lde (o := 0) ty9 rfl rfl (.row 0 rfl) (getI_spec he12).2 rfl) ?_
                  refine lj_nil ?_
                  refine cnI _ _ (sof1 rfl rfl (fun _ h => h.picks [2, 2] rfl)) ?_
                  refine at_take2 11 rfl (by kernel_rfl) (by kernel_rfl) (by kernel_rfl) (fun _ h => h.picks [0, 0] rfl) rfl rfl (p_catM hc13 rfl rfl) (fun _ h => h.picks [2, 2] rfl) ?_
                  refine at_take2 12 rfl (by kernel_rfl) (by kernel_rfl) (by kernel_rfl) (fun _ h => h.picks [0, 0] rfl) rfl rfl (p_as rfl) (fun _ h => h.picks [2, 2] rfl) ?_
                  refine at_done (by kernel_rfl) ?_
                  exact cnk5 _ _ c13 () (Option.some.inj hm).symm ⟨rfl, rfl, rfl, rfl, trivial⟩ (fun _ h => h.picks [2, 2] rfl)
              · refine lp rfl (p_lde (o := 0) ty9 rfl rfl (.row 0 rfl) (getI_spec he12).2 rfl) ?_
                refine lj_nil ?_
                refine cnI _ _ (sof1 rfl rfl (fun _ h => h.picks [2, 2] rfl)) ?_
                refine at_each (rs := [4]) (by kernel_rfl) (by decide) ?_
                refine (.cons rfl (fun I cnI => ?_) .nil)
                · refine lp rfl (p_lde (o := 0) ty9 rfl rfl (.row 1 rfl) (getI_spec he8).2 rfl) ?_
                  refine lj_nil ?_
                  refine cnI _ _ (sof1 rfl rfl (fun _ h => h.picks [2, 2] rfl)) ?_
                  refine at_take2 5 rfl (by kernel_rfl) (by kernel_rfl) (by kernel_rfl) (fun _ h => h.picks [0, 0] rfl) rfl rfl (p_catM hc9 rfl rfl) (fun _ h => h.picks [2, 2] rfl) ?_
                  refine at_take2 11 rfl (by kernel_rfl) (by kernel_rfl) (by kernel_rfl) (fun _ h => h.picks [0, 0] rfl) rfl rfl (p_catM hc13 rfl rfl) (fun _ h => h.picks [2, 2] rfl) ?_
                  refine at_take2 12 rfl (by kernel_rfl) (by kernel_rfl) (by kernel_rfl) (fun _ h => h.picks [0, 0] rfl) rfl rfl (p_as rfl) (fun _ h => h.picks [2, 2] rfl) ?_
                  refine at_done (by kernel_rfl) ?_
                  exact cnk5 _ _ c13 () (Option.some.inj hm).symm ⟨rfl, rfl, rfl, rfl, trivial⟩ (fun _ h => h.picks [2, 2] rfl)
          · refine lp rfl (p_idx Tryz.underlying56 ty9 rfl rfl (.row 0 rfl) he12) ?_
            refine lj_nil ?_
            refine cnI _ _ (sof1 rfl rfl (fun _ h => h.picks [2, 2] rfl)) ?_
            refine at_each (rs := [3, 10]) (by kernel_rfl) (by decide) ?_
            refine (.cons rfl (fun I cnI => ?_) (.cons rfl (fun I cnI => ?_) .nil))
            · refine lp rfl (p_idx Tryz.underlying56 ty9 rfl rfl (.row 1 rfl) he8) ?_
              refine lj_nil ?_
              refine cnI _ _ (sof1 rfl rfl (fun _ h => h.picks [2, 2] rfl)) ?_
              refine at_each (rs := [4, 10]) (by kernel_rfl) (by decide) ?_
              refine (.cons rfl (fun I cnI => ?_) (.cons rfl (fun I cnI => ?_) .nil))
              · refine lp rfl (p_lde (o := 0) ty9 rfl rfl (.row 1 rfl) (getI_spec he8).2 rfl) ?_
                refine lj_nil ?_
                refine cnI _ _ (sof1 rfl rfl (fun _ h => h.picks [2, 2] rfl)) ?_
                refine at_take2 5 rfl (by kernel_rfl) (by kernel_rfl) (by kernel_rfl) (fun _ h => h.picks [0, 0] rfl) rfl rfl (p_catM hc9 rfl rfl) (fun _ h => h.picks [2, 2] rfl) ?_
                refine at_each (rs := [10]) (by kernel_rfl) (by decide) ?_
                refine (.cons rfl (fun I cnI => ?_) .nil)
                · refine lp rfl (p_lde (o := 0) ty9 rfl rfl (.row 0 rfl) (getI_spec he12).2 rfl) ?_
                  refine lj_nil ?_
                  refine cnI _ _ (sof1 rfl rfl (fun _ h => h.picks [2, 2] rfl)) ?_
                  refine at_take2 11 rfl (by kernel_rfl) (by kernel_rfl) (by kernel_rfl) (fun _ h => h.picks [0, 0] rfl) rfl rfl (p_catM hc13 rfl rfl) (fun _ h => h.picks [2, 2] rfl) ?_
                  refine at_take2 12 rfl (by kernel_rfl) (by kernel_rfl) (by kernel_rfl) (fun _ h => h.picks [0, 0] rfl) rfl rfl (p_as rfl) (fun _ h => h.picks [2, 2] rfl) ?_
                  refine at_done (by kernel_rfl) ?_
                  exact cnk5 _ _ c13 () (Option.some.inj hm).symm ⟨rfl, rfl, rfl, rfl, trivial⟩ (fun _ h => h.picks [2, 2] rfl)
              · refine lp rfl (p_lde (o := 0) ty9 rfl rfl (.row 0 rfl) (getI_spec he12).2 rfl) ?_
                refine lj_nil ?_
                refine cnI _ _ (sof1 rfl rfl (fun _ h => h.picks [2, 2] rfl)) ?_
                refine at_each (rs := [4]) (by kernel_rfl) (by decide) ?_
                refine (.cons rfl (fun I cnI => ?_) .nil)
                · refine lp rfl (p_lde (o := 0) ty9 rfl rfl (.row 1 rfl) (getI_spec he8).2 rfl) ?_
                  refine lj_nil ?_
                  refine cnI _ _ (sof1 rfl rfl (fun _ h => h.picks [2, 2] rfl)) ?_
                  refine at_take2 5 rfl (by kernel_rfl) (by kernel_rfl) (by kernel_rfl) (fun _ h => h.picks [0, 0] rfl) rfl rfl (p_catM hc9 rfl rfl) (fun _ h => h.picks [2, 2] rfl) ?_
                  refine at_take2 11 rfl (by kernel_rfl) (by kernel_rfl) (by kernel_rfl) (fun _ h => h.picks [0, 0] rfl) rfl rfl (p_catM hc13 rfl rfl) (fun _ h => h.picks [2, 2] rfl) ?_
                  refine at_take2 12 rfl (by kernel_rfl) (by kernel_rfl) (by kernel_rfl) (fun _ h => h.picks [0, 0] rfl) rfl rfl (p_as rfl) (fun _ h => h.picks [2, 2] rfl) ?_
                  refine at_done (by kernel_rfl) ?_
                  exact cnk5 _ _ c13 () (Option.some.inj hm).symm ⟨rfl, rfl, rfl, rfl, trivial⟩ (fun _ h => h.picks [2, 2] rfl)
            · refine lp rfl (p_lde (o := 0) ty9 rfl rfl (.row 0 rfl) (getI_spec he12).2 rfl) ?_
              refine lj_nil ?_
              refine cnI _ _ (sof1 rfl rfl (fun _ h => h.picks [2, 2] rfl)) ?_
              refine at_each (rs := [3]) (by kernel_rfl) (by decide) ?_
              refine (.cons rfl (fun I cnI => ?_) .nil)
              · refine lp rfl (p_idx Tryz.underlying56 ty9 rfl rfl (.row 1 rfl) he8) ?_
                refine lj_nil ?_
                refine cnI _ _ (sof1 rfl rfl (fun _ h => h.picks [2, 2] rfl)) ?_
                refine at_each (rs := [4]) (by kernel_rfl) (by decide) ?_
                refine (.cons rfl (fun I cnI => ?_) .nil)
                · refine lp rfl (p_lde (o := 0) ty9 rfl rfl (.row 1 rfl) (getI_spec he8).2 rfl) ?_
                  refine lj_nil ?_
                  refine cnI _ _ (sof1 rfl rfl (fun _ h => h.picks [2, 2] rfl)) ?_
                  refine at_take2 5 rfl (by kernel_rfl) (by kernel_rfl) (by kernel_rfl) (fun _ h => h.picks [0, 0] rfl) rfl rfl (p_catM hc9 rfl rfl) (fun _ h => h.picks [2, 2] rfl) ?_
                  refine at_take2 11 rfl (by kernel_rfl) (by kernel_rfl) (by kernel_rfl) (fun _ h => h.picks [0, 0] rfl) rfl rfl (p_catM hc13 rfl rfl) (fun _ h => h.picks [2, 2] rfl) ?_
                  refine at_take2 12 rfl (by kernel_rfl) (by kernel_rfl) (by kernel_rfl) (fun _ h => h.picks [0, 0] rfl) rfl rfl (p_as rfl) (fun _ h => h.picks [2, 2] rfl) ?_
                  refine at_done (by kernel_rfl) ?_
                  exact cnk5 _ _ c13 () (Option.some.inj hm).symm ⟨rfl, rfl, rfl, rfl, trivial⟩ (fun _ h => h.picks [2, 2] rfl)
theorem ok_kit_IsMoment (a0 : Int) {r : Bool} (hm : m_kit_IsMoment a0 = some r) :
    Ctr Tryz.prog 47 [.int .i64 a0].toArray ([] : List Ent) [] (X := Unit) (fun _ => .bool r) (fun _ => []) := by
  unfold m_kit_IsMoment at hm
  refine ctr_mk (vs := [(0, .int .i64 a0)]) Tryz.func47 rfl Tryz.ntmps47 rfl ⟨rfl, trivial⟩ (fun w0 A => ?_)
  refine cj_seq ?_
  refine cj_reg ?_
  refine lp rfl (p_as rfl) ?_
  refine lj_seq ?_
  refine cj_seq ?_
  refine cj_reg ?_
  refine lp rfl (p_mv rfl) ?_
  obtain ⟨y1, hy1, hm⟩ := bindS hm
  refine r_call [] cf22 rfl rfl (ok_kit_Outside a0 0 345686399999 hy1) rfl rfl .nil (fun _ => rfl) rfl (fun _ => ?_)
  refine lp rfl (p_not rfl) ?_
  refine lp rfl (p_as rfl) ?_
  refine lj_seq ?_
  obtain rfl := Option.some.inj hm
  exact cj_rt () [] Tryz.results47 (.tmp rfl .nil) rfl rfl
theorem ok_kit_IsKey (a0 : ByteArray) {r : Bool} (hm : m_kit_IsKey a0 = some r) :
    Ctr Tryz.prog 71 [.string a0].toArray ([] : List Ent) [] (X := Unit) (fun _ => .bool r) (fun _ => []) := by
  unfold m_kit_IsKey at hm
  refine ctr_mk (vs := [(0, .string a0)]) Tryz.func71 rfl Tryz.ntmps71 rfl ⟨rfl, trivial⟩ (fun w0 A => ?_)
  refine cj_seq ?_
  refine cj_reg ?_
  refine lp rfl (p_as rfl) ?_
  refine lj_seq ?_
  refine cj_seq ?_
  refine cj_reg ?_
  refine lp rfl (p_mv rfl) ?_
  refine lp rfl (p_nes rfl rfl) ?_
  refine lp rfl (p_mv rfl) ?_
  refine lcase (i := 5) (!(a0.toList == ByteArray.empty.toList)) rfl (fun hb => ?_) (fun hb => ?_)
  · have hm := ifB_t hb hm
    refine lg true rfl rfl rfl ?_
    refine lp rfl (p_mv rfl) ?_
    refine lg true rfl rfl rfl ?_
    refine lp rfl (p_lens Tryz.underlying9 rfl) ?_
    refine lg true rfl rfl rfl ?_
    refine lp rfl (p_leq rfl rfl) ?_
    refine lp rfl (p_pkt rfl rfl) ?_
    refine lp rfl (p_mv rfl) ?_
    refine lcase (i := 10) (decide ((a0.size : Int) ≤ 40)) rfl (fun hb => ?_) (fun hb => ?_)
    · have hm := ifB_t hb hm
      refine lg true rfl rfl rfl ?_
      refine lp rfl (p_mv rfl) ?_
      refine lg true rfl rfl rfl ?_
      obtain ⟨c1, hc1, hm⟩ := bindS hm
      refine lp rfl (p_stri Tryz.underlying9 rfl rfl hc1) ?_
      refine lg true rfl rfl rfl ?_
      obtain ⟨y2, hy2, hm⟩ := bindS hm
      refine r_call [] cf100 rfl rfl (ok_strings_IndexByte (ByteArray.mk [97, 98, 99, 100, 101, 102, 103, 104, 105, 106, 107, 108, 109, 110, 111, 112, 113, 114, 115, 116, 117, 118, 119, 120, 121, 122].toArray) c1 hy2) rfl rfl .nil (fun _ => rfl) rfl (fun _ => ?_)
      refine lg true rfl rfl rfl ?_
      refine lp rfl (p_geq rfl rfl) ?_
      refine lp rfl (p_pkt rfl rfl) ?_
      refine lp rfl (p_mv rfl) ?_
      refine lcase (i := 16) (decide (y2 ≥ 0)) rfl (fun hb => ?_) (fun hb => ?_)
      · have hm := ifB_t hb hm
        refine lg true rfl rfl rfl ?_
        refine lp rfl (p_mv rfl) ?_
        refine lg true rfl rfl rfl ?_
        obtain ⟨y3, hy3, hm⟩ := bindS hm
        refine r_call [] cf61 rfl rfl (ok_strings_Trim a0 (ByteArray.mk [97, 98, 99, 100, 101, 102, 103, 104, 105, 106, 107, 108, 109, 110, 111, 112, 113, 114, 115, 116, 117, 118, 119, 120, 121, 122, 48, 49, 50, 51, 52, 53, 54, 55, 56, 57, 45, 95].toArray) hy3) rfl rfl .nil (fun _ => rfl) rfl (fun _ => ?_)
        refine lg true rfl rfl rfl ?_
        refine lp rfl (p_eqs rfl rfl) ?_
        refine lp rfl (p_pkt rfl rfl) ?_
        refine lp rfl (p_as rfl) ?_
        refine lj_seq ?_
        obtain rfl := Option.some.inj hm
        exact cj_rt () [] Tryz.results71 (.tmp rfl .nil) rfl rfl
      · have hm := ifB_f hb hm
        refine ls true rfl rfl rfl rfl ?_
        refine ls true rfl rfl rfl rfl ?_
        refine ls true rfl rfl rfl rfl ?_
        refine lp rfl (p_pkf rfl rfl) ?_
        refine lp rfl (p_as rfl) ?_
        refine lj_seq ?_
        obtain rfl := Option.some.inj hm
        exact cj_rt () [] Tryz.results71 (.tmp rfl .nil) rfl rfl
    · have hm := ifB_f hb hm
      refine ls true rfl rfl rfl rfl ?_
      refine ls true rfl rfl rfl rfl ?_
      refine ls true rfl rfl rfl rfl ?_
      refine ls true rfl rfl rfl rfl ?_
      refine lp rfl (p_pkf rfl rfl) ?_
      refine lp rfl (p_mv rfl) ?_
      refine ls true rfl rfl rfl rfl ?_
      refine ls true rfl rfl rfl rfl ?_
      refine ls true rfl rfl rfl rfl ?_
      refine lp rfl (p_pkf rfl rfl) ?_
      refine lp rfl (p_as rfl) ?_
      refine lj_seq ?_
      obtain rfl := Option.some.inj hm
      exact cj_rt () [] Tryz.results71 (.tmp rfl .nil) rfl rfl
  · have hm := ifB_f hb hm
    refine ls true rfl rfl rfl rfl ?_
    refine ls true rfl rfl rfl rfl ?_
    refine ls true rfl rfl rfl rfl ?_
    refine lp rfl (p_pkf rfl rfl) ?_
    refine lp rfl (p_mv rfl) ?_
    refine ls true rfl rfl rfl rfl ?_
    refine ls true rfl rfl rfl rfl ?_
    refine ls true rfl rfl rfl rfl ?_
    refine ls true rfl rfl rfl rfl ?_
    refine lp rfl (p_pkf rfl rfl) ?_
    refine lp rfl (p_mv rfl) ?_
    refine ls true rfl rfl rfl rfl ?_
    refine ls true rfl rfl rfl rfl ?_
    refine ls true rfl rfl rfl rfl ?_
    refine lp rfl (p_pkf rfl rfl) ?_
    refine lp rfl (p_as rfl) ?_
    refine lj_seq ?_
    obtain rfl := Option.some.inj hm
    exact cj_rt () [] Tryz.results71 (.tmp rfl .nil) rfl rfl
theorem ok_cmp_isNaN_int (a0 : Int) {r : Bool} (hm : m_cmp_isNaN_int a0 = some r) :
    Ctr Tryz.prog 146 [.int .i64 a0].toArray ([] : List Ent) [] (X := Unit) (fun _ => .bool r) (fun _ => []) := by
  unfold m_cmp_isNaN_int at hm
  refine ctr_mk (vs := [(0, .int .i64 a0)]) Tryz.func146 rfl Tryz.ntmps146 rfl ⟨rfl, trivial⟩ (fun w0 A => ?_)
  refine cj_seq ?_
  refine cj_reg ?_
  refine lp rfl (p_as rfl) ?_
  refine lj_seq ?_
  refine cj_seq ?_
  refine cj_reg ?_
  refine lp rfl (p_mv rfl) ?_
  refine lp rfl (p_mv rfl) ?_
  refine lp rfl (p_neq rfl rfl) ?_
  refine lp rfl (p_as rfl) ?_
  refine lj_seq ?_
  obtain rfl := Option.some.inj hm
  exact cj_rt () [] Tryz.results146 (.tmp rfl .nil) rfl rfl
theorem ok_cmp_Compare_int (a0 : Int) (a1 : Int) {r : Int} (hm : m_cmp_Compare_int a0 a1 = some r) :
    Ctr Tryz.prog 102 [.int .i64 a0, .int .i64 a1].toArray ([] : List Ent) [] (X := Unit) (fun _ => .int .i64 r) (fun _ => []) := by
  unfold m_cmp_Compare_int at hm
  refine ctr_mk (vs := [(0, .int .i64 a0), (1, .int .i64 a1)]) Tryz.func102 rfl Tryz.ntmps102 rfl ⟨rfl, rfl, trivial⟩ (fun w0 A => ?_)
  refine cj_seq ?_
  refine cj_reg ?_
  refine lp rfl (p_as rfl) ?_
  refine lj_seq ?_
  refine cj_seq ?_
  refine cj_reg ?_
  refine lp rfl (p_mv rfl) ?_
  obtain ⟨y1, hy1, hm⟩ := bindS hm
  refine r_call [] cf146 rfl rfl (ok_cmp_isNaN_int a0 hy1) rfl rfl .nil (fun _ => rfl) rfl (fun _ => ?_)
  refine lp rfl (p_as rfl) ?_
  refine lj_seq ?_
  refine cj_seq ?_
  refine cj_reg ?_
  refine lp rfl (p_mv rfl) ?_
  obtain ⟨y2, hy2, hm⟩ := bindS hm
  refine r_call [] cf146 rfl rfl (ok_cmp_isNaN_int a1 hy2) rfl rfl .nil (fun _ => rfl) rfl (fun _ => ?_)
  refine lp rfl (p_as rfl) ?_
  refine lj_seq ?_
  refine cj_seq ?_
  refine cj_seq ?_
  refine cj_reg ?_
  refine lp rfl (p_mv rfl) ?_
  refine lj_seq ?_
  refine cj_if (b := y1) rfl (fun hb => ?_) (fun hb => ?_)
  · have hm := ifB_t hb hm
    refine cj_seq ?_
    refine cj_seq ?_
    refine cj_reg ?_
    refine lp rfl (p_mv rfl) ?_
    refine lj_seq ?_
    refine cj_if (b := y2) rfl (fun hb => ?_) (fun hb => ?_)
    · have hm := ifB_t hb hm
      refine cj_seq ?_
      refine cj_reg ?_
      refine lp rfl (p_as rfl) ?_
      refine lj_seq ?_
      obtain rfl := Option.some.inj hm
      exact cj_rt () [] Tryz.results102 (.tmp rfl .nil) rfl rfl
    · have hm := ifB_f hb hm
      refine cj_skip ?_
      refine nj_seq ?_
      refine cj_seq ?_
      refine cj_reg ?_
      refine lp rfl (p_as rfl) ?_
      refine lj_seq ?_
      obtain rfl := Option.some.inj hm
      exact cj_rt () [] Tryz.results102 (.tmp rfl .nil) rfl rfl
  · have hm := ifB_f hb hm
    refine cj_skip ?_
    refine nj_seq ?_
    refine cj_seq ?_
    refine cj_seq ?_
    refine cj_reg ?_
    refine lp rfl (p_mv rfl) ?_
    refine lj_seq ?_
    refine cj_if (b := y2) rfl (fun hb => ?_) (fun hb => ?_)
    · have hm := ifB_t hb hm
      refine cj_seq ?_
      refine cj_reg ?_
      refine lp rfl (p_as rfl) ?_
      refine lj_seq ?_
      obtain rfl := Option.some.inj hm
      exact cj_rt () [] Tryz.results102 (.tmp rfl .nil) rfl rfl
    · have hm := ifB_f hb hm
      refine cj_skip ?_
      refine nj_seq ?_
      refine cj_seq ?_
      refine cj_seq ?_
      refine cj_reg ?_
      refine lp rfl (p_mv rfl) ?_
      refine lp rfl (p_mv rfl) ?_
      refine lp rfl (p_lss rfl rfl) ?_
      refine lj_seq ?_
      refine cj_if (b := decide (a0 < a1)) rfl (fun hb => ?_) (fun hb => ?_)
      · have hm := ifB_t hb hm
        refine cj_seq ?_
        refine cj_reg ?_
        refine lp rfl (p_as rfl) ?_
        refine lj_seq ?_
        obtain rfl := Option.some.inj hm
        exact cj_rt () [] Tryz.results102 (.tmp rfl .nil) rfl rfl
      · have hm := ifB_f hb hm
        refine cj_skip ?_
        refine nj_seq ?_
        refine cj_seq ?_
        refine cj_seq ?_
        refine cj_reg ?_
        refine lp rfl (p_mv rfl) ?_
        refine lp rfl (p_mv rfl) ?_
        refine lp rfl (p_gtr rfl rfl) ?_
        refine lj_seq ?_
        refine cj_if (b := decide (a0 > a1)) rfl (fun hb => ?_) (fun hb => ?_)
        · have hm := ifB_t hb hm
          refine cj_seq ?_
          refine cj_reg ?_
          refine lp rfl (p_as rfl) ?_
          refine lj_seq ?_
          obtain rfl := Option.some.inj hm
          exact cj_rt () [] Tryz.results102 (.tmp rfl .nil) rfl rfl
        · have hm := ifB_f hb hm
          refine cj_skip ?_
          refine nj_seq ?_
          refine cj_seq ?_
          refine cj_reg ?_
          refine lp rfl (p_as rfl) ?_
          refine lj_seq ?_
          obtain rfl := Option.some.inj hm
          exact cj_rt () [] Tryz.results102 (.tmp rfl .nil) rfl rfl
theorem ok_rehearse_flagNumber (a0 : Bool) {r : Int} (hm : m_rehearse_flagNumber a0 = some r) :
    Ctr Tryz.prog 104 [.bool a0].toArray ([] : List Ent) [] (X := Unit) (fun _ => .int .i64 r) (fun _ => []) := by
  unfold m_rehearse_flagNumber at hm
  refine ctr_mk (vs := [(0, .bool a0)]) Tryz.func104 rfl Tryz.ntmps104 rfl ⟨rfl, trivial⟩ (fun w0 A => ?_)
  refine cj_seq ?_
  refine cj_reg ?_
  refine lp rfl (p_as rfl) ?_
  refine lj_seq ?_
  refine cj_seq ?_
  refine cj_seq ?_
  refine cj_reg ?_
  refine lp rfl (p_mv rfl) ?_
  refine lj_seq ?_
  refine cj_if (b := a0) rfl (fun hb => ?_) (fun hb => ?_)
  · have hm := ifB_t hb hm
    refine cj_seq ?_
    refine cj_reg ?_
    refine lp rfl (p_as rfl) ?_
    refine lj_seq ?_
    obtain rfl := Option.some.inj hm
    exact cj_rt () [] Tryz.results104 (.tmp rfl .nil) rfl rfl
  · have hm := ifB_f hb hm
    refine cj_skip ?_
    refine nj_seq ?_
    refine cj_seq ?_
    refine cj_reg ?_
    refine lp rfl (p_as rfl) ?_
    refine lj_seq ?_
    obtain rfl := Option.some.inj hm
    exact cj_rt () [] Tryz.results104 (.tmp rfl .nil) rfl rfl
theorem ok_cmp_Or_int (s0_ : SV) (a0 : (List Int)) {r : Int} (hm : m_cmp_Or_int a0 = some r) :
    Ctr Tryz.prog 101 [s0_.v].toArray ([] : List Ent) [RdS R3 (SV.v s0_) a0] (X := Unit) (fun _ => .int .i64 r) (fun _ => []) := by
  unfold m_cmp_Or_int at hm
  refine ctr_mk (vs := [(0, s0_.v)]) Tryz.func101 rfl Tryz.ntmps101 rfl ⟨rfl, trivial⟩ (fun w0 A => ?_)
  refine cj_seq ?_
  refine cj_reg ?_
  refine lp rfl (p_as rfl) ?_
  refine lj_seq ?_
  refine cj_seq ?_
  refine cj_reg ?_
  refine lp rfl (p_as rfl) ?_
  refine lj_seq ?_
  refine cj_seq ?_
  refine cj_seq ?_
  refine cj_reg ?_
  refine lp rfl (p_mv rfl) ?_
  refine lp rfl (p_len Tryz.underlying22 rfl (.ro 0 rfl)) ?_
  refine lp rfl (p_mv rfl) ?_
  refine lj_seq ?_
  obtain ⟨f7, hf7, hm⟩ := bindS hm
  refine cj_range (γ := Unit) (m := (a0.length : Int)) hf7 () (fun u4 g5 => [(2, .int .i64 0), (3, .int .i64 0), (6, s0_.v)]) (fun u4 g5 => Sat w0 (keys ([] : List Ent)) A [.ro (RdS R3 (SV.v s0_) a0)]) ⟨rfl, rfl, rfl, rfl, rfl, trivial⟩ (fun _ h => h.picks [0] rfl) (nat_lt _) (fun _ h => (FactAt.get (F := RdS R3 (SV.v s0_) a0) (.ro 0 rfl) h).1) (fun _ _ => ⟨rfl, rfl, rfl, rfl⟩) ⟨rfl, rfl, rfl, rfl, rfl⟩ rfl rfl rfl (fun u4 g5 e => ?_) (fun aftk6 i1 x2 u4 g5 k6 hx3 hs J hJk6 hBk6 hX I cnk6 => ?_)
  · have hm := Flow.fin_b e hm
    refine nj_seq ?_
    refine cj_seq ?_
    refine cj_reg ?_
    refine lp rfl (p_mv rfl) ?_
    refine lp rfl (p_as rfl) ?_
    refine lj_seq ?_
    obtain rfl := Option.some.inj hm
    exact cj_rt () [] Tryz.results101 (.tmp rfl .nil) rfl rfl
  · have hRk6 : ∀ t, k6 = .ret t → some t = some r := fun t e => by rw [hX t e] at hm; exact hm
    have hm := hs
    refine cj_seq ?_
    refine cj_reg ?_
    refine lp rfl (p_idx Tryz.underlying22 ty3 rfl rfl (.ro 0 rfl) (getI_nat.trans hx3)) ?_
    refine lp rfl (p_lde (o := 0) ty3 rfl rfl (.ro 0 rfl) hx3 rfl) ?_
    refine lp rfl (p_as rfl) ?_
    refine lj_seq ?_
    refine cj_seq ?_
    refine cj_reg ?_
    refine lp rfl (p_mv rfl) ?_
    refine lp rfl (p_mv rfl) ?_
    refine lp rfl (p_neq rfl rfl) ?_
    refine lj_seq ?_
    refine cj_if (b := x2 != 0) rfl (fun hb => ?_) (fun hb => ?_)
    · have hm := ifB_t hb hm
      refine cj_seq ?_
      refine cj_reg ?_
      refine lp rfl (p_mv rfl) ?_
      refine lp rfl (p_as rfl) ?_
      refine lj_seq ?_
      have hm := hRk6 _ (Option.some.inj hm).symm
      obtain rfl := Option.some.inj hm
      exact cj_rt () [] Tryz.results101 (.tmp rfl .nil) rfl rfl
    · have hm := ifB_f hb hm
      refine cj_skip ?_
      refine nj_blk ?_
      exact cnk6 _ _ () () (hJk6 _ (Option.some.inj hm).symm) ⟨rfl, rfl, rfl, rfl, rfl, trivial⟩ (fun _ h => h.picks [0] rfl)
theorem ok_rehearse_compareCame (a0 : TCame) (a1 : TCame) {r : Int} (hm : m_rehearse_compareCame a0 a1 = some r) :
    Ctr Tryz.prog 72 [.agg (R60.enc a0).toArray, .agg (R60.enc a1).toArray].toArray ([] : List Ent) [] (X := Unit) (fun _ => .int .i64 r) (fun _ => []) := by
  unfold m_rehearse_compareCame at hm
  refine ctr_mk (vs := [(0, .agg (R60.enc a0).toArray), (1, .agg (R60.enc a1).toArray)]) Tryz.func72 rfl Tryz.ntmps72 rfl ⟨rfl, rfl, trivial⟩ (fun w0 A => ?_)
  refine cj_seq ?_
  refine cj_reg ?_
  refine r_bx (cs := [.int .i64 a0.At, .string a0.Singer, .bool a0.Left]) rfl rfl rfl (fun b1 => ?_)
  refine r_bx (cs := [.int .i64 a1.At, .string a1.Singer, .bool a1.Left]) rfl rfl rfl (fun b2 => ?_)
  refine lp rfl (p_as rfl) ?_
  refine lj_seq ?_
  refine cj_seq ?_
  obtain ⟨y3, hy3, hm⟩ := bindS hm
  obtain ⟨y4, hy4, hm⟩ := bindS hm
  obtain ⟨y5, hy5, hm⟩ := bindS hm
  obtain ⟨y6, hy6, hm⟩ := bindS hm
  obtain ⟨y7, hy7, hm⟩ := bindS hm
  obtain ⟨y9, hy9, hm⟩ := bindS hm
  refine cj_anyT [0, 1, 2, 3, 5, 6, 7, 8, 10, 11, 13, 14, 19] [] (Sat w0 (keys ([] : List Ent)) A [.box b2 60 [.int .i64 a1.At, .string a1.Singer, .bool a1.Left], .box b1 60 [.int .i64 a0.At, .string a0.Singer, .bool a0.Left]]) (Sat w0 (keys ([] : List Ent)) A [.box b2 60 [.int .i64 a1.At, .string a1.Singer, .bool a1.Left], .box b1 60 [.int .i64 a0.At, .string a0.Singer, .bool a0.Left]]) (by kernel_rfl) ?_
  refine at_take2 0 rfl (by kernel_rfl) (by kernel_rfl) (by kernel_rfl) (fun _ h => h.picks [0, 0] rfl) rfl rfl (p_fab fl60_0 rfl) (fun _ h => h.picks [0, 0] rfl) ?_
  refine at_take2 1 rfl (by kernel_rfl) (by kernel_rfl) (by kernel_rfl) (fun _ h => h.picks [0, 0] rfl) rfl rfl (p_lbs ty3 rfl (j := 1) rfl rfl) (fun _ h => h.picks [0, 0] rfl) ?_
  refine at_take2 2 rfl (by kernel_rfl) (by kernel_rfl) (by kernel_rfl) (fun _ h => h.picks [0, 0] rfl) rfl rfl (p_fab fl60_0 rfl) (fun _ h => h.picks [0, 0] rfl) ?_
  refine at_take2 3 rfl (by kernel_rfl) (by kernel_rfl) (by kernel_rfl) (fun _ h => h.picks [0, 0] rfl) rfl rfl (p_lbs ty3 rfl (j := 0) rfl rfl) (fun _ h => h.picks [0, 0] rfl) ?_
  refine at_take2 5 rfl (by kernel_rfl) (by kernel_rfl) (by kernel_rfl) (fun _ h => h.picks [0, 0] rfl) rfl rfl (p_fab fl60_1 rfl) (fun _ h => h.picks [0, 0] rfl) ?_
  refine at_take2 6 rfl (by kernel_rfl) (by kernel_rfl) (by kernel_rfl) (fun _ h => h.picks [0, 0] rfl) rfl rfl (p_lbs ty9 rfl (j := 1) rfl rfl) (fun _ h => h.picks [0, 0] rfl) ?_
  refine at_take2 7 rfl (by kernel_rfl) (by kernel_rfl) (by kernel_rfl) (fun _ h => h.picks [0, 0] rfl) rfl rfl (p_fab fl60_1 rfl) (fun _ h => h.picks [0, 0] rfl) ?_
  refine at_take2 8 rfl (by kernel_rfl) (by kernel_rfl) (by kernel_rfl) (fun _ h => h.picks [0, 0] rfl) rfl rfl (p_lbs ty9 rfl (j := 0) rfl rfl) (fun _ h => h.picks [0, 0] rfl) ?_
  refine at_take2 10 rfl (by kernel_rfl) (by kernel_rfl) (by kernel_rfl) (fun _ h => h.picks [0, 0] rfl) rfl rfl (p_fab fl60_2 rfl) (fun _ h => h.picks [0, 0] rfl) ?_
  refine at_take2 11 rfl (by kernel_rfl) (by kernel_rfl) (by kernel_rfl) (fun _ h => h.picks [0, 0] rfl) rfl rfl (p_lbs ty4 rfl (j := 1) rfl rfl) (fun _ h => h.picks [0, 0] rfl) ?_
  refine at_take2 13 rfl (by kernel_rfl) (by kernel_rfl) (by kernel_rfl) (fun _ h => h.picks [0, 0] rfl) rfl rfl (p_fab fl60_2 rfl) (fun _ h => h.picks [0, 0] rfl) ?_
  refine at_take2 14 rfl (by kernel_rfl) (by kernel_rfl) (by kernel_rfl) (fun _ h => h.picks [0, 0] rfl) rfl rfl (p_lbs ty4 rfl (j := 0) rfl rfl) (fun _ h => h.picks [0, 0] rfl) ?_
  refine at_each (rs := [4]) (by kernel_rfl) (by decide) ?_
  refine (.cons rfl (fun I cnI => ?_) .nil)
  · refine r_call [] cf102 rfl rfl (ok_cmp_Compare_int a0.At a1.At hy3) rfl rfl .nil (fun _ => rfl) rfl (fun _ => ?_)
    refine lj_nil ?_
    refine cnI _ _ (sof1 rfl rfl (fun _ h => h.picks [0, 0] rfl)) ?_
    refine at_each (rs := [9]) (by kernel_rfl) (by decide) ?_
    refine (.cons rfl (fun I cnI => ?_) .nil)
    · refine r_call [] cf103 rfl rfl (ok_strings_Compare a0.Singer a1.Singer hy4) rfl rfl .nil (fun _ => rfl) rfl (fun _ => ?_)
      refine lj_nil ?_
      refine cnI _ _ (sof1 rfl rfl (fun _ h => h.picks [0, 0] rfl)) ?_
      refine at_each (rs := [12]) (by kernel_rfl) (by decide) ?_
      refine (.cons rfl (fun I cnI => ?_) .nil)
      · refine r_call [] cf104 rfl rfl (ok_rehearse_flagNumber a0.Left hy5) rfl rfl .nil (fun _ => rfl) rfl (fun _ => ?_)
        refine lj_nil ?_
        refine cnI _ _ (sof1 rfl rfl (fun _ h => h.picks [0, 0] rfl)) ?_
        refine at_each (rs := [15]) (by kernel_rfl) (by decide) ?_
        refine (.cons rfl (fun I cnI => ?_) .nil)
        · refine r_call [] cf104 rfl rfl (ok_rehearse_flagNumber a1.Left hy6) rfl rfl .nil (fun _ => rfl) rfl (fun _ => ?_)
          refine lj_nil ?_
          refine cnI _ _ (sof1 rfl rfl (fun _ h => h.picks [0, 0] rfl)) ?_
          refine at_each (rs := [16]) (by kernel_rfl) (by decide) ?_
          refine (.cons rfl (fun I cnI => ?_) .nil)
          · refine r_call [] cf102 rfl rfl (ok_cmp_Compare_int y5 y6 hy7) rfl rfl .nil (fun _ => rfl) rfl (fun _ => ?_)
            refine lj_nil ?_
            refine cnI _ _ (sof1 rfl rfl (fun _ h => h.picks [0, 0] rfl)) ?_
            refine at_each (rs := [17]) (by kernel_rfl) (by decide) ?_
            refine (.cons rfl (fun I cnI => ?_) .nil)
            · refine r_bs R3 [y3, y4, y7] rfl rfl rfl (fun _ => by kernel_rfl) rfl (fun s10 => ?_)
              refine lj_nil ?_
              refine cnI _ _ (sof1 rfl rfl (fun _ h => h.picks [1, 1] rfl)) ?_
              refine at_each (rs := [18]) (by kernel_rfl) (by decide) ?_
              refine (.cons rfl (fun I cnI => ?_) .nil)
              · refine r_call [] cf101 rfl rfl (ok_cmp_Or_int s10 [y3, y4, y7] hy9) rfl rfl (.cons (.row 0 rfl) .nil) (fun _ => rfl) rfl (fun _ => ?_)
                refine lj_nil ?_
                refine cnI _ _ (sof1 rfl rfl (fun _ h => h.picks [1, 1] rfl)) ?_
                refine at_take2 19 rfl (by kernel_rfl) (by kernel_rfl) (by kernel_rfl) (fun _ h => h.picks [0, 0] rfl) rfl rfl (p_as rfl) (fun _ h => h.picks [1, 1] rfl) ?_
                refine at_done (by kernel_rfl) ?_
                refine nj_seq ?_
                obtain rfl := Option.some.inj hm
                exact cj_rt () [] Tryz.results72 (.tmp rfl .nil) rfl rfl
theorem ok_rehearse_CheckCame (s0_ : SV) (a0 : (List TCame)) {r : Int} (hm : m_rehearse_CheckCame a0 = some r) :
    Ctr Tryz.prog 46 [s0_.v].toArray ([] : List Ent) [RdS R60 (SV.v s0_) a0] (X := Unit) (fun _ => .int .i64 r) (fun _ => []) := by
  unfold m_rehearse_CheckCame at hm
  refine ctr_mk (vs := [(0, s0_.v)]) Tryz.func46 rfl Tryz.ntmps46 rfl ⟨rfl, trivial⟩ (fun w0 A => ?_)
  refine cj_seq ?_
  refine cj_reg ?_
  refine lp rfl (p_as rfl) ?_
  refine lj_seq ?_
  refine cj_seq ?_
  refine cj_seq ?_
  refine cj_reg ?_
  refine lp rfl (p_mv rfl) ?_
  refine lp rfl (p_len Tryz.underlying61 rfl (.ro 0 rfl)) ?_
  refine lp rfl (p_gtr rfl rfl) ?_
  refine lj_seq ?_
  refine cj_if (b := decide ((a0.length : Int) > 5000)) rfl (fun hb => ?_) (fun hb => ?_)
  · have hm := ifB_t hb hm
    refine cj_seq ?_
    refine cj_reg ?_
    refine lp rfl (p_as rfl) ?_
    refine lj_seq ?_
    obtain rfl := Option.some.inj hm
    exact cj_rt () [] Tryz.results46 (.tmp rfl .nil) rfl rfl
  · have hm := ifB_f hb hm
    refine cj_skip ?_
    refine nj_seq ?_
    refine cj_seq ?_
    refine cj_seq ?_
    refine cj_reg ?_
    refine lp rfl (p_mv rfl) ?_
    refine lp rfl (p_len Tryz.underlying61 rfl (.ro 0 rfl)) ?_
    refine lp rfl (p_mv rfl) ?_
    refine lj_seq ?_
    obtain ⟨f7, hf7, hm⟩ := bindS hm
    refine cj_range (γ := Unit) (m := (a0.length : Int)) hf7 () (fun u4 g5 => [(0, s0_.v), (2, .int .i64 0), (8, s0_.v)]) (fun u4 g5 => Sat w0 (keys ([] : List Ent)) A [.ro (RdS R60 (SV.v s0_) a0)]) ⟨rfl, rfl, rfl, rfl, rfl, trivial⟩ (fun _ h => h.picks [0] rfl) (nat_lt _) (fun _ h => (FactAt.get (F := RdS R60 (SV.v s0_) a0) (.ro 0 rfl) h).1) (fun _ _ => ⟨rfl, rfl, rfl, rfl⟩) ⟨rfl, rfl, rfl, rfl, rfl⟩ rfl rfl rfl (fun u4 g5 e => ?_) (fun aftk6 i1 x2 u4 g5 k6 hx3 hs J hJk6 hBk6 hX I cnk6 => ?_)
    · have hm := Flow.fin_b e hm
      refine nj_seq ?_
      refine cj_seq ?_
      refine cj_reg ?_
      refine lp rfl (p_as rfl) ?_
      refine lj_seq ?_
      obtain rfl := Option.some.inj hm
      exact cj_rt () [] Tryz.results46 (.tmp rfl .nil) rfl rfl
    · have hRk6 : ∀ t, k6 = .ret t → some t = some r := fun t e => by rw [hX t e] at hm; exact hm
      have hm := hs
      refine cj_seq ?_
      refine cj_reg ?_
      refine lp rfl (p_mv rfl) ?_
      refine lp rfl (p_idx Tryz.underlying61 ty60 rfl rfl (.ro 0 rfl) (getI_nat.trans hx3)) ?_
      refine lp rfl (p_lea ty60 rfl (.ro 0 rfl) hx3) ?_
      refine r_al ty60 rfl (fun b8 => ?_)
      refine lp rfl (p_as rfl) ?_
      refine r_sb (vs := [.int .i64 x2.At, .string x2.Singer, .bool x2.Left]) (j := 0) ty60 rfl rfl rfl rfl rfl rfl rfl ?_
      refine lj_seq ?_
      refine cj_blk ?_
      refine cj_seq ?_
      refine cj_reg ?_
      refine lp rfl (p_fab fl60_0 rfl) ?_
      refine lp rfl (p_lbs ty3 rfl (j := 0) rfl rfl) ?_
      obtain ⟨y9, hy9, hm⟩ := bindS hm
      refine r_call [] cf47 rfl rfl (ok_kit_IsMoment x2.At hy9) rfl rfl .nil (fun _ => rfl) rfl (fun _ => ?_)
      refine lp rfl (p_not rfl) ?_
      refine lp rfl (p_as rfl) ?_
      refine lj_seq ?_
      refine cj_if (b := !y9) rfl (fun hb => ?_) (fun hb => ?_)
      · have hm := ifB_t hb hm
        refine cj_seq ?_
        refine cj_reg ?_
        refine lp rfl (p_as rfl) ?_
        refine lj_seq ?_
        have hm := hRk6 _ (Option.some.inj hm).symm
        obtain rfl := Option.some.inj hm
        exact cj_rt () [] Tryz.results46 (.tmp rfl .nil) rfl rfl
      · have hm := ifB_f hb hm
        refine cj_seq ?_
        refine cj_reg ?_
        refine lp rfl (p_fab fl60_1 rfl) ?_
        refine lp rfl (p_lbs ty9 rfl (j := 0) rfl rfl) ?_
        obtain ⟨y10, hy10, hm⟩ := bindS hm
        refine r_call [] cf71 rfl rfl (ok_kit_IsKey x2.Singer hy10) rfl rfl .nil (fun _ => rfl) rfl (fun _ => ?_)
        refine lp rfl (p_not rfl) ?_
        refine lp rfl (p_as rfl) ?_
        refine lj_seq ?_
        refine cj_if (b := !y10) rfl (fun hb => ?_) (fun hb => ?_)
        · have hm := ifB_t hb hm
          refine cj_seq ?_
          refine cj_reg ?_
          refine lp rfl (p_as rfl) ?_
          refine lj_seq ?_
          have hm := hRk6 _ (Option.some.inj hm).symm
          obtain rfl := Option.some.inj hm
          exact cj_rt () [] Tryz.results46 (.tmp rfl .nil) rfl rfl
        · have hm := ifB_f hb hm
          refine cj_seq ?_
          refine cj_quiet (by kernel_rfl) (by kernel_rfl) ?_
          refine q_p rfl (p_mv rfl) ?_
          refine q_p rfl (p_gtr rfl rfl) ?_
          refine q_p rfl (p_mv rfl) ?_
          refine q_case (i := 28) (decide ((i1 : Int) > 0)) rfl (fun hb => ?_) (fun hb => ?_)
          · have hm := ifB_t hb hm
            refine q_g true rfl rfl rfl ?_
            refine q_p rfl (p_mv rfl) ?_
            refine q_g true rfl rfl rfl ?_
            refine q_p rfl (p_mv rfl) ?_
            refine q_g true rfl rfl rfl ?_
            refine q_p rfl (p_sub rfl rfl) ?_
            refine q_g true rfl rfl rfl ?_
            obtain ⟨e11, he11, hm⟩ := bindS hm
            refine q_p rfl (p_idx Tryz.underlying61 ty60 rfl rfl (.ro 1 rfl) he11) ?_
            refine q_g true rfl rfl rfl ?_
            refine q_p rfl (p_lea ty60 rfl (.ro 1 rfl) (getI_spec he11).2) ?_
            refine q_g true rfl rfl rfl ?_
            refine q_p rfl (p_lbw ty60 rfl (j := 0) rfl rfl) ?_
            refine q_g true rfl rfl rfl ?_
            obtain ⟨y12, hy12, hm⟩ := bindS hm
            refine q_call (.int .i64 y12) cf72 rfl rfl (ok_rehearse_compareCame e11 x2 hy12) .nil (fun _ => rfl) (fun _ => rfl) rfl ?_
            refine q_g true rfl rfl rfl ?_
            refine q_p rfl (p_geq rfl rfl) ?_
            refine q_p rfl (p_pkt rfl rfl) ?_
            refine q_p rfl (p_as rfl) ?_
            refine q_nil ?_
            refine nj_seq ?_
            refine cj_if (b := decide (y12 ≥ 0)) rfl (fun hb => ?_) (fun hb => ?_)
            · have hm := ifB_t hb hm
              refine cj_seq ?_
              refine cj_reg ?_
              refine lp rfl (p_as rfl) ?_
              refine lj_seq ?_
              have hm := hRk6 _ (Option.some.inj hm).symm
              obtain rfl := Option.some.inj hm
              exact cj_rt () [] Tryz.results46 (.tmp rfl .nil) rfl rfl
            · have hm := ifB_f hb hm
              refine cj_skip ?_
              refine nj_blk ?_
              refine nj_blk ?_
              exact cnk6 _ _ () () (hJk6 _ (Option.some.inj hm).symm) ⟨rfl, rfl, rfl, rfl, rfl, trivial⟩ (fun _ h => h.picks [1] rfl)
          · have hm := ifB_f hb hm
            refine q_s true rfl rfl rfl rfl ?_
            refine q_s true rfl rfl rfl rfl ?_
            refine q_s true rfl rfl rfl rfl ?_
            refine q_s true rfl rfl rfl rfl ?_
            refine q_s true rfl rfl rfl rfl ?_
            refine q_s true rfl rfl rfl rfl ?_
            refine q_s true rfl rfl rfl rfl ?_
            refine q_s true rfl rfl rfl rfl ?_
            refine q_p rfl (p_pkf rfl rfl) ?_
            refine q_p rfl (p_as rfl) ?_
            refine q_nil ?_
            refine nj_seq ?_
            refine cj_if_f rfl ?_
            refine cj_skip ?_
            refine nj_blk ?_
            refine nj_blk ?_
            exact cnk6 _ _ () () (hJk6 _ (Option.some.inj hm).symm) ⟨rfl, rfl, rfl, rfl, rfl, trivial⟩ (fun _ h => h.picks [1] rfl)
theorem ok_rehearse_joined (s0_ : SV) (a0 : (List TWindow)) {r : (List TWindow)} (hm : m_rehearse_joined a0 = some r) :
    Ctr Tryz.prog 73 [s0_.v].toArray ([] : List Ent) [RdS R100 (SV.v s0_) a0] (X := SV) (fun s => s.v) (fun s => [.row R100 (SV.v s) r]) := by
  unfold m_rehearse_joined at hm
  refine ctr_mk (vs := [(0, s0_.v)]) Tryz.func73 rfl Tryz.ntmps73 rfl ⟨rfl, trivial⟩ (fun w0 A => ?_)
  refine cj_seq ?_
  refine cj_reg ?_
  refine lp rfl (p_as rfl) ?_
  refine lj_seq ?_
  refine cj_seq ?_
  refine cj_reg ?_
  refine lp rfl (p_as rfl) ?_
  refine lj_seq ?_
  refine cj_seq ?_
  refine cj_seq ?_
  refine cj_reg ?_
  refine lp rfl (p_mv rfl) ?_
  refine lp rfl (p_len Tryz.underlying97 rfl (.ro 0 rfl)) ?_
  refine lp rfl (p_mv rfl) ?_
  refine lj_seq ?_
  refine cj_nil R100 ?_
  obtain ⟨f8, hf8, hm⟩ := bindS hm
  refine cj_range (γ := SV) (m := (a0.length : Int)) hf8 nilS (fun u5 g6 => [(2, .slice none 0 0), (3, g6.v), (7, s0_.v)]) (fun u5 g6 => Sat w0 (keys ([] : List Ent)) A [.ro (RdS R100 (SV.v s0_) a0), .row R100 (SV.v g6) u5]) ⟨rfl, rfl, rfl, rfl, rfl, trivial⟩ (fun _ h => h.picks [1, 0] rfl) (nat_lt _) (fun _ h => (FactAt.get (F := RdS R100 (SV.v s0_) a0) (.ro 1 rfl) h).1) (fun _ _ => ⟨rfl, rfl, rfl, rfl⟩) ⟨rfl, rfl, rfl, rfl, rfl⟩ rfl rfl rfl (fun u5 g6 e => ?_) (fun aftk7 i1 x2 u5 g6 k7 hx3 hs J hJk7 hBk7 hX I cnk7 => ?_)
  · have hm := Flow.fin_b e hm
    refine nj_seq ?_
    refine cj_seq ?_
    refine cj_reg ?_
    refine lp rfl (p_mv rfl) ?_
    refine lp rfl (p_as rfl) ?_
    refine lj_seq ?_
    obtain rfl := Option.some.inj hm
    exact cj_rt g6 [1] Tryz.results73 (.tmp rfl .nil) rfl rfl
  · have hRk7 : ∀ t, k7 = .ret t → some t = some r := fun t e => by rw [hX t e] at hm; exact hm
    have hm := hs
    refine cj_seq ?_
    refine cj_reg ?_
    refine lp rfl (p_idx Tryz.underlying97 ty100 rfl rfl (.ro 0 rfl) (getI_nat.trans hx3)) ?_
    refine lp rfl (p_lea ty100 rfl (.ro 0 rfl) hx3) ?_
    refine r_al ty100 rfl (fun b10 => ?_)
    refine r_sb (vs := [.int .i64 x2.From, .int .i64 x2.To]) (j := 0) ty100 rfl rfl rfl rfl rfl rfl rfl ?_
    refine lj_seq ?_
    refine cj_seq ?_
    refine cj_reg ?_
    refine lp rfl (p_mv rfl) ?_
    refine lp rfl (p_len Tryz.underlying97 rfl (.row 2 rfl)) ?_
    refine lp rfl (p_sub rfl rfl) ?_
    refine lp rfl (p_as rfl) ?_
    refine lj_seq ?_
    refine cj_seq ?_
    refine cj_quiet (by kernel_rfl) (by kernel_rfl) ?_
    refine q_p rfl (p_mv rfl) ?_
    refine q_p rfl (p_geq rfl rfl) ?_
    refine q_p rfl (p_mv rfl) ?_
    refine q_case (i := 18) (decide ((w64 ((u5.length : Int) - 1)) ≥ 0)) rfl (fun hb => ?_) (fun hb => ?_)
    · have hm := ifB_t hb hm
      refine q_g true rfl rfl rfl ?_
      refine q_p rfl (p_fab fl100_0 rfl) ?_
      refine q_g true rfl rfl rfl ?_
      refine q_p rfl (p_lbs ty3 rfl (j := 0) rfl rfl) ?_
      refine q_g true rfl rfl rfl ?_
      refine q_p rfl (p_mv rfl) ?_
      refine q_g true rfl rfl rfl ?_
      refine q_p rfl (p_mv rfl) ?_
      refine q_g true rfl rfl rfl ?_
      obtain ⟨e11, he11, hm⟩ := bindS hm
      refine q_p rfl (p_idx Tryz.underlying97 ty100 rfl rfl (.row 2 rfl) he11) ?_
      refine q_g true rfl rfl rfl ?_
      refine q_p rfl (p_fae fl100_1 rfl (.row 2 rfl) (getI_spec he11).2) ?_
      refine q_g true rfl rfl rfl ?_
      refine q_p rfl (p_lde (o := 1) ty3 rfl rfl (.row 2 rfl) (getI_spec he11).2 rfl) ?_
      refine q_g true rfl rfl rfl ?_
      refine q_p rfl (p_leq rfl rfl) ?_
      refine q_p rfl (p_pkt rfl rfl) ?_
      refine q_nil ?_
      refine nj_seq ?_
      refine cj_if (b := decide (x2.From ≤ e11.To)) rfl (fun hb => ?_) (fun hb => ?_)
      · have hm := ifB_t hb hm
        refine cj_tail 12 (by kernel_rfl) (by kernel_rfl) ?_
        refine s_p rfl (p_mv rfl) ?_
        refine s_p rfl (p_mv rfl) ?_
        refine s_p rfl (p_mv rfl) ?_
        refine s_p rfl (p_mv rfl) ?_
        obtain ⟨e12, he12, hm⟩ := bindS hm
        refine s_p rfl (p_idx Tryz.underlying97 ty100 rfl rfl (.row 2 rfl) he12) ?_
        refine s_p rfl (p_fae fl100_1 rfl (.row 2 rfl) (getI_spec he12).2) ?_
        refine s_p rfl (p_lde (o := 1) ty3 rfl rfl (.row 2 rfl) (getI_spec he12).2 rfl) ?_
        refine s_p rfl (p_fab fl100_1 rfl) ?_
        refine s_p rfl (p_lbs ty3 rfl (j := 0) rfl rfl) ?_
        refine s_p rfl (p_max rfl rfl) ?_
        obtain ⟨e13, he13, hm⟩ := bindS hm
        refine s_p rfl (p_idx Tryz.underlying97 ty100 rfl rfl (.row 2 rfl) he13) ?_
        refine s_p rfl (p_fae fl100_1 rfl (.row 2 rfl) (getI_spec he13).2) ?_
        refine s_nil ?_
        refine r_ste (k := 2) (o := 1) (vs := [.int .i64 (max e12.To x2.To)]) ty3 rfl rfl rfl rfl rfl rfl rfl (getI_spec he13).2 (TWindow.mk e13.From (max e12.To x2.To)) rfl rfl ?_
        refine lj_nil ?_
        refine nj_blk ?_
        exact cnk7 _ _ (u5.set ((w64 ((u5.length : Int) - 1)).toNat) (TWindow.mk e13.From (max e12.To x2.To))) g6 (hJk7 _ (Option.some.inj hm).symm) ⟨rfl, rfl, rfl, rfl, rfl, trivial⟩ (fun _ h => h.picks [1, 1] rfl)
      · have hm := ifB_f hb hm
        refine cj_reg ?_
        refine lp rfl (p_mv rfl) ?_
        refine lp rfl (p_lbw ty100 rfl (j := 0) rfl rfl) ?_
        refine r_bs R100 [x2] rfl rfl rfl (fun _ => by kernel_rfl) rfl (fun s14 => ?_)
        obtain ⟨q15, hq15, hm⟩ := bindS hm
        refine r_app (k := 3) Tryz.underlying97 ty100 rfl rfl rfl rfl (.row 0 rfl) hq15 rfl (fun s16 => ?_)
        refine lp rfl (p_as rfl) ?_
        refine lj_nil ?_
        refine nj_blk ?_
        exact cnk7 _ _ q15 s16 (hJk7 _ (Option.some.inj hm).symm) ⟨rfl, rfl, rfl, rfl, rfl, trivial⟩ (fun _ h => h.picks [2, 2] rfl)
    · have hm := ifB_f hb hm
      refine q_s true rfl rfl rfl rfl ?_
      refine q_s true rfl rfl rfl rfl ?_
      refine q_s true rfl rfl rfl rfl ?_
      refine q_s true rfl rfl rfl rfl ?_
      refine q_s true rfl rfl rfl rfl ?_
      refine q_s true rfl rfl rfl rfl ?_
      refine q_s true rfl rfl rfl rfl ?_
      refine q_s true rfl rfl rfl rfl ?_
      refine q_p rfl (p_pkf rfl rfl) ?_
      refine q_nil ?_
      refine nj_seq ?_
      refine cj_if_f rfl ?_
      refine cj_reg ?_
      refine lp rfl (p_mv rfl) ?_
      refine lp rfl (p_lbw ty100 rfl (j := 0) rfl rfl) ?_
      refine r_bs R100 [x2] rfl rfl rfl (fun _ => by kernel_rfl) rfl (fun s17 => ?_)
      obtain ⟨q18, hq18, hm⟩ := bindS hm
      refine r_app (k := 3) Tryz.underlying97 ty100 rfl rfl rfl rfl (.row 0 rfl) hq18 rfl (fun s19 => ?_)
      refine lp rfl (p_as rfl) ?_
      refine lj_nil ?_
      refine nj_blk ?_
      exact cnk7 _ _ q18 s19 (hJk7 _ (Option.some.inj hm).symm) ⟨rfl, rfl, rfl, rfl, rfl, trivial⟩ (fun _ h => h.picks [2, 2] rfl)
theorem ok_rehearse_presences (s0_ : SV) (a0 : (List TCame)) {r : (List (ByteArray × (List TWindow)))} (hm : m_rehearse_presences a0 = some r) :
    Ctr Tryz.prog 48 [s0_.v].toArray ([] : List Ent) [RdS R60 (SV.v s0_) a0] (X := (Nat × List (ByteArray × SV) × Array MapEntry × Nat)) (fun s => .map (some s.1)) (fun s => [.obj (famO kv9 SV.v (rowE R100) s.1 r s.2.1 none s.2.2.1 s.2.2.2)]) := by
  unfold m_rehearse_presences at hm
  refine ctr_mk (vs := [(0, s0_.v)]) Tryz.func48 rfl Tryz.ntmps48 rfl ⟨rfl, trivial⟩ (fun w0 A => ?_)
  refine cj_seq ?_
  refine cj_reg ?_
  refine lp rfl (p_as rfl) ?_
  refine lj_seq ?_
  refine cj_seq ?_
  refine cj_reg ?_
  refine r_mkmapF kv9 SV.v (rowE R100) rfl (fun b1 => ?_)
  refine lp rfl (p_as rfl) ?_
  refine lj_seq ?_
  refine cj_seq ?_
  refine cj_reg ?_
  refine r_mkmap kv9 vv3 rfl (fun b2 => ?_)
  refine lp rfl (p_as rfl) ?_
  refine lj_seq ?_
  refine cj_seq ?_
  refine cj_seq ?_
  refine cj_reg ?_
  refine lp rfl (p_mv rfl) ?_
  refine lp rfl (p_len Tryz.underlying61 rfl (.ro 2 rfl)) ?_
  refine lp rfl (p_mv rfl) ?_
  refine lj_seq ?_
  obtain ⟨f9, hf9, hm⟩ := bindS hm
  refine cj_range (γ := (Array MapEntry × Nat × List (ByteArray × SV) × Array MapEntry × Nat)) (m := (a0.length : Int)) hf9 (#[], 0, [], #[], 0) (fun u6 g7 => [(2, .map none), (3, .map (some b1)), (4, .map (some b2)), (15, s0_.v)]) (fun u6 g7 => Sat w0 (keys ([] : List Ent)) A [.obj (mapO kv9 b2 (mpV vv3 u6.1) g7.1 g7.2.1), .obj (famO kv9 SV.v (rowE R100) b1 u6.2 g7.2.2.1 none g7.2.2.2.1 g7.2.2.2.2), .ro (RdS R60 (SV.v s0_) a0)]) ⟨rfl, rfl, rfl, rfl, rfl, rfl, trivial⟩ (fun _ h => h.picks [0, 0, 0] rfl) (nat_lt _) (fun _ h => (FactAt.get (F := RdS R60 (SV.v s0_) a0) (.ro 2 rfl) h).1) (fun _ _ => ⟨rfl, rfl, rfl, rfl⟩) ⟨rfl, rfl, rfl, rfl, rfl⟩ rfl rfl rfl (fun u6 g7 e => ?_) (fun aftk8 i3 x4 u6 g7 k8 hx5 hs J hJk8 hBk8 hX I cnk8 => ?_)
  · have hm := Flow.fin_b e hm
    refine nj_seq ?_
    refine cj_seq ?_
    refine cj_seq ?_
    refine cj_reg ?_
    refine lp rfl (p_mv rfl) ?_
    refine r_rng (vv := vv3) Tryz.underlying128 (.map 0 rfl) rfl rfl (fun b31 hrb32 => ?_)
    refine lj_seq ?_
    have hsq := anyOrd_spec hm
    refine cj_mrange (γ := (List (ByteArray × SV) × Array MapEntry × Nat)) (fun L hL => hsq L hL) hrb32 (g7.2.2.1, g7.2.2.2.1, g7.2.2.2.2) (fun u38 g39 => [(2, .map none), (3, .map (some b1))]) (fun u38 g39 => [.obj (mapO kv9 b2 (mpV vv3 u6.1) g7.1 g7.2.1), .obj (famO kv9 SV.v (rowE R100) b1 u38 g39.1 none g39.2.1 g39.2.2)]) ⟨rfl, rfl, rfl, trivial⟩ (fun _ h => h.picks [0, 0, 0] rfl) (fun _ _ => (.map 0 rfl)) (fun _ _ => ⟨rfl, rfl, rfl⟩) ⟨rfl, rfl, rfl⟩ rfl rfl (fun u38 g39 e => ?_) (fun aftk40 i33 x34 u38 g39 idx37 ix36 k40 hx35 hs J hJk40 hBk40 hX I cnk40 => ?_)
    · have hm := Flow.fin_b (f := .brk u38) rfl e
      refine nj_seq ?_
      refine cj_seq ?_
      refine cj_seq ?_
      refine cj_reg ?_
      refine lp rfl (p_mv rfl) ?_
      refine r_rng (vv := SV.v) Tryz.underlying95 (.imp (.fam 1 rfl) (fun _ h => h.map)) rfl rfl (fun b48 hrb49 => ?_)
      refine lj_seq ?_
      refine cj_pure (F := FamAt kv9 SV.v (rowE R100) b1 u38 g39.1 none g39.2.1 g39.2.2) (.fam 2 rfl) (fun _ h => h.kys) (fun hky55 => ?_)
      refine cj_fact (F := fun _ => KeptK (u38.map Prod.fst) g39.2.1 g39.2.2 g39.1 g39.2.1 g39.2.2) (.tru (KeptK.refl _ hky55)) ?_
      have hsq := anyOrd_spec hm
      refine cj_frange (γ := (List (ByteArray × SV) × Array MapEntry × Nat)) (vv := SV.v) (fun u57 g58 => g58.1) (fun u57 g58 => g58.2.1) (fun u57 g58 => g58.2.2) (fun L hL => hsq L hL) hrb49 (g39.1, g39.2.1, g39.2.2) (fun u57 g58 => [(2, .map none), (3, .map (some b1))]) (fun u57 g58 => [.ro (fun _ => KeptK (u38.map Prod.fst) g39.2.1 g39.2.2 g58.1 g58.2.1 g58.2.2), .obj (mapO kv9 b2 (mpV vv3 u6.1) g7.1 g7.2.1), .obj (famO kv9 SV.v (rowE R100) b1 u57 g58.1 none g58.2.1 g58.2.2)]) ⟨rfl, rfl, rfl, trivial⟩ (fun _ h => h.picks [1, 0, 0, 0] rfl) (fun _ _ => .and (.imp (.fam 2 rfl) (fun _ h => h.map)) (.ro 0 rfl)) (fun _ _ => ⟨rfl, rfl, rfl⟩) ⟨rfl, rfl, rfl⟩ rfl rfl (fun u57 g58 e => ?_) (fun aftk59 i50 x51 u57 g58 idx54 ix53 k59 hx52 hs J hJk59 hBk59 hX I cnk59 => ?_)
      · have hm := Flow.fin_b (f := .brk u57) rfl e
        refine NJ.sat (fun _ h => h.picks [1, 1] rfl) ?_
        refine nj_seq ?_
        refine cj_seq ?_
        refine cj_reg ?_
        refine lp rfl (p_mv rfl) ?_
        refine lp rfl (p_as rfl) ?_
        refine lj_seq ?_
        obtain rfl := Option.some.inj hm
        exact cj_rt (b1, g58.1, g58.2.1, g58.2.2) [1] Tryz.results48 (.tmp rfl .nil) rfl rfl
      · have hRk59 : ∀ t, k59 = .ret t → some t = some r := fun t e => hX t e
        have hm := hs
        refine cj_pure (F := fun _ => KeptK (u38.map Prod.fst) g39.2.1 g39.2.2 g58.1 g58.2.1 g58.2.2) (.ro 1 rfl) (fun _ h => h) (fun hkp61 => ?_)
        refine cj_seq ?_
        refine cj_reg ?_
        refine lp rfl (p_entF (n := 0) (k := x51) (z := nilS) (.fam 3 rfl) hkp61 rfl hx52 rfl) ?_
        refine lp rfl (p_ext rfl rfl) ?_
        refine lp rfl (p_ext rfl rfl) ?_
        refine lp rfl (p_as rfl) ?_
        refine lp rfl (p_as rfl) ?_
        refine lj_seq ?_
        refine cj_reg ?_
        refine lp rfl (p_mv rfl) ?_
        refine lp rfl (p_mv rfl) ?_
        refine lp rfl (p_mv rfl) ?_
        obtain ⟨y62, hy62, hm⟩ := bindS hm
        refine r_call [] cf73 rfl rfl (ok_rehearse_joined ((lkM g58.1 x51).getD nilS) ((lkM u57 x51).getD []) hy62) rfl rfl (.cons (.imp (.fam 3 rfl) (fun _ h => h.look x51)) .nil) (fun _ => rfl) rfl (fun s63 => ?_)
        refine r_mpuK (x1 := y62) (g1 := s63) (k := x51) [4, 0] Tryz.underlying95 keyF9 rfl (.inl rfl) (KeptK.has hkp61 hx52) hkp61 rfl rfl rfl (fun es64 hkp66 => ?_)
        refine r_fact (F := fun _ => KeptK (u38.map Prod.fst) g39.2.1 g39.2.2 (putM g58.1 x51 s63) es64 g58.2.2) (.tru hkp66) ?_
        refine lj_nil ?_
        refine nj_blk ?_
        exact cnk59 _ _ (putM u57 x51 y62) (putM g58.1 x51 s63, es64, g58.2.2) (hJk59 _ (Option.some.inj hm).symm) ⟨rfl, rfl, rfl, trivial⟩ (fun _ h => h.picks [2, 0, 2, 0] rfl)
    · have hRk40 : ∀ t, k40 = .ret t → some t = some r := fun t e => hX t e
      have hm := hs
      refine cj_seq ?_
      refine cj_reg ?_
      refine lp rfl (p_ent (kk := x34.1) (v := x34.2) (vv := vv3) (k := 0) (.map 1 rfl) rfl hx35 rfl) ?_
      refine lp rfl (p_ext rfl rfl) ?_
      refine lp rfl (p_ext rfl rfl) ?_
      refine lp rfl (p_as rfl) ?_
      refine lp rfl (p_as rfl) ?_
      refine lj_seq ?_
      refine cj_reg ?_
      refine lp rfl (p_mv rfl) ?_
      refine lp rfl (p_mv rfl) ?_
      refine lp rfl (p_mv rfl) ?_
      refine lp rfl (p_mv rfl) ?_
      refine lp rfl (p_lkm (vv := SV.v) (k := x34.1) (z := nilS) Tryz.underlying95 (keyF9) (fun _ => by kernel_rfl) (.imp (.fam 2 rfl) (fun _ h => h.map)) rfl rfl) ?_
      refine lp rfl (p_mv rfl) ?_
      refine lp rfl (p_bld [.int .i64 x34.2, .int .i64 345686400000] rfl (fun _ => by kernel_rfl)) ?_
      refine r_bs R100 [(TWindow.mk x34.2 345686400000)] rfl rfl rfl (fun _ => by kernel_rfl) rfl (fun s42 => ?_)
      refine LJ.sat (fun _ h => h.takeR 3 rfl x34.1) ?_
      obtain ⟨q44, hq44, hm⟩ := bindS hm
      refine r_app (k := 0) Tryz.underlying97 ty100 rfl rfl rfl rfl (.row 2 rfl) hq44 rfl (fun s45 => ?_)
      refine r_mpuF (x1 := q44) (g1 := s45) (k := x34.1) [1, 0] Tryz.underlying95 keyF9 rfl (.inr rfl) rfl rfl rfl (fun es46 cl47 => ?_)
      refine lj_nil ?_
      refine nj_blk ?_
      exact cnk40 _ _ (putM u38 x34.1 q44) (putM g39.1 x34.1 s45, es46, cl47) (hJk40 _ (Option.some.inj hm).symm) ⟨rfl, rfl, rfl, trivial⟩ (fun _ h => h.picks [2, 2, 0] rfl)
  · have hRk8 : ∀ t, k8 = .ret t → some t = some r := fun t e => by rw [hX t e] at hm; exact hm
    have hm := hs
    refine cj_seq ?_
    refine cj_reg ?_
    refine lp rfl (p_idx Tryz.underlying61 ty60 rfl rfl (.ro 2 rfl) (getI_nat.trans hx5)) ?_
    refine lp rfl (p_lea ty60 rfl (.ro 2 rfl) hx5) ?_
    refine r_al ty60 rfl (fun b10 => ?_)
    refine r_sb (vs := [.int .i64 x4.At, .string x4.Singer, .bool x4.Left]) (j := 0) ty60 rfl rfl rfl rfl rfl rfl rfl ?_
    refine lj_seq ?_
    refine cj_seq ?_
    refine cj_reg ?_
    refine lp rfl (p_mv rfl) ?_
    refine lp rfl (p_fab fl60_1 rfl) ?_
    refine lp rfl (p_lbs ty9 rfl (j := 0) rfl rfl) ?_
    refine lp rfl (p_lko (vv := vv3) (k := x4.Singer) (z := 0) Tryz.underlying128 (keyF9) (fun _ => by kernel_rfl) (.map 1 rfl) rfl rfl) ?_
    refine lp rfl (p_mv rfl) ?_
    refine lp rfl (p_ext rfl rfl) ?_
    refine lp rfl (p_ext rfl rfl) ?_
    refine lp rfl (p_as rfl) ?_
    refine lp rfl (p_as rfl) ?_
    refine lj_seq ?_
    refine cj_blk ?_
    refine cj_seq ?_
    refine cj_reg ?_
    obtain ⟨k13, hk13, hm⟩ := bindS hm
    have hRk13 : ∀ t, k13 = .inr t → some t = some k8 := fun t e => by rw [e] at hm; exact hm
    refine lj_join (σ := Bool) (γ := Unit) (fun u11 => k13 = .inl u11) (fun u11 g12 => [(2, .map none), (3, .map (some b1)), (4, .map (some b2)), (6, .pointer (some ⟨b10, 0, none⟩)), (7, .int .i64 ((lkM u6.1 x4.Singer).getD 0)), (8, .bool (hasM u6.1 x4.Singer)), (15, s0_.v), (16, .int .i64 (a0.length : Int)), (17, .int .i64 (i3 : Int)), (28, .bool u11)]) (fun u11 g12 => Sat w0 (keys ([] : List Ent)) A [.box b10 60 [.int .i64 x4.At, .string x4.Singer, .bool x4.Left], .obj (mapO kv9 b2 (mpV vv3 u6.1) g7.1 g7.2.1), .obj (famO kv9 SV.v (rowE R100) b1 u6.2 g7.2.2.1 none g7.2.2.2.1 g7.2.2.2.2), .ro (RdS R60 (SV.v s0_) a0)]) (fun u11 g12 hq => ?_) (fun J cnk13 => ?_)
    · have hm := Sum.fin_l hq hm
      refine cj_if (b := u11) rfl (fun hb => ?_) (fun hb => ?_)
      · have hm := ifB_t hb hm
        refine cj_reg ?_
        refine lp rfl (p_mv rfl) ?_
        refine lp rfl (p_fab fl60_1 rfl) ?_
        refine lp rfl (p_lbs ty9 rfl (j := 0) rfl rfl) ?_
        refine lp rfl (p_fab fl60_0 rfl) ?_
        refine lp rfl (p_lbs ty3 rfl (j := 0) rfl rfl) ?_
        refine r_mpu (j := 1) (vv := vv3) (k := x4.Singer) (v := x4.At) Tryz.underlying128 keyF9 rfl rfl rfl rfl (fun es14 cl15 => ?_)
        refine lj_nil ?_
        refine nj_blk ?_
        refine nj_blk ?_
        exact cnk8 _ _ (putM u6.1 x4.Singer x4.At, u6.2) (es14, cl15, g7.2.2.1, g7.2.2.2.1, g7.2.2.2.2) (hJk8 _ (Option.some.inj hm).symm) ⟨rfl, rfl, rfl, rfl, rfl, rfl, trivial⟩ (fun _ h => h.picks [1, 1, 1] rfl)
      · have hm := ifB_f hb hm
        refine cj_seq ?_
        refine cj_reg ?_
        obtain ⟨k18, hk18, hm⟩ := bindS hm
        have hRk18 : ∀ t, k18 = .inr t → some t = some k8 := fun t e => by rw [e] at hm; exact hm
        refine lj_join (σ := Bool) (γ := Unit) (fun u16 => k18 = .inl u16) (fun u16 g17 => [(2, .map none), (3, .map (some b1)), (4, .map (some b2)), (6, .pointer (some ⟨b10, 0, none⟩)), (7, .int .i64 ((lkM u6.1 x4.Singer).getD 0)), (15, s0_.v), (16, .int .i64 (a0.length : Int)), (17, .int .i64 (i3 : Int)), (41, .bool u16)]) (fun u16 g17 => Sat w0 (keys ([] : List Ent)) A [.box b10 60 [.int .i64 x4.At, .string x4.Singer, .bool x4.Left], .obj (mapO kv9 b2 (mpV vv3 u6.1) g7.1 g7.2.1), .obj (famO kv9 SV.v (rowE R100) b1 u6.2 g7.2.2.1 none g7.2.2.2.1 g7.2.2.2.2), .ro (RdS R60 (SV.v s0_) a0)]) (fun u16 g17 hq => ?_) (fun J cnk18 => ?_)
        · have hm := Sum.fin_l hq hm
          refine cj_if (b := u16) rfl (fun hb => ?_) (fun hb => ?_)
          · have hm := ifB_t hb hm
            refine cj_seq ?_
            refine cj_reg ?_
            refine lp rfl (p_mv rfl) ?_
            refine lp rfl (p_fab fl60_1 rfl) ?_
            refine lp rfl (p_lbs ty9 rfl (j := 0) rfl rfl) ?_
            refine r_del (j := 1) (vv := vv3) (k := x4.Singer) Tryz.underlying128 keyF9 rfl rfl rfl (fun es19 => ?_)
            refine lj_seq ?_
            refine cj_seq ?_
            refine cj_reg ?_
            refine lp rfl (p_mv rfl) ?_
            refine lp rfl (p_fab fl60_0 rfl) ?_
            refine lp rfl (p_lbs ty3 rfl (j := 0) rfl rfl) ?_
            refine lp rfl (p_lss rfl rfl) ?_
            refine lj_seq ?_
            refine cj_if (b := decide (((lkM u6.1 x4.Singer).getD 0) < x4.At)) rfl (fun hb => ?_) (fun hb => ?_)
            · have hm := ifB_t hb hm
              obtain ⟨q22, hq22, hm⟩ := bindS hm
              refine cj_anyT [0, 1, 2, 3, 4, 5, 6, 7, 8, 9, 10] [12, 13] (Sat w0 (keys ([] : List Ent)) A [.box b10 60 [.int .i64 x4.At, .string x4.Singer, .bool x4.Left], .obj (mapO kv9 b2 (mpV vv3 (delM u6.1 x4.Singer)) es19 g7.2.1), .obj (famO kv9 SV.v (rowE R100) b1 u6.2 g7.2.2.1 none g7.2.2.2.1 g7.2.2.2.2), .ro (RdS R60 (SV.v s0_) a0)]) (Sat w0 (keys ([] : List Ent)) A [.box b10 60 [.int .i64 x4.At, .string x4.Singer, .bool x4.Left], .obj (mapO kv9 b2 (mpV vv3 (delM u6.1 x4.Singer)) es19 g7.2.1), .ro (RdS R60 (SV.v s0_) a0)]) (by kernel_rfl) ?_
              refine at_take2 0 rfl (by kernel_rfl) (by kernel_rfl) (by kernel_rfl) (fun _ h => h.picks [0, 0, 1] rfl) rfl rfl (p_mv rfl) (fun _ h => h.picks [0, 0, 1] rfl) ?_
              refine at_take2 1 rfl (by kernel_rfl) (by kernel_rfl) (by kernel_rfl) (fun _ h => h.picks [0, 0, 1] rfl) rfl rfl (p_fab fl60_1 rfl) (fun _ h => h.picks [0, 0, 1] rfl) ?_
              refine at_take2 2 rfl (by kernel_rfl) (by kernel_rfl) (by kernel_rfl) (fun _ h => h.picks [0, 0, 1] rfl) rfl rfl (p_lbs ty9 rfl (j := 0) rfl rfl) (fun _ h => h.picks [0, 0, 1] rfl) ?_
              refine at_take2 3 rfl (by kernel_rfl) (by kernel_rfl) (by kernel_rfl) (fun _ h => h.picks [0, 0, 1] rfl) rfl rfl (p_mv rfl) (fun _ h => h.picks [0, 0, 1] rfl) ?_
              refine at_take2 4 rfl (by kernel_rfl) (by kernel_rfl) (by kernel_rfl) (fun _ h => h.picks [0, 0, 1] rfl) rfl rfl (p_fab fl60_1 rfl) (fun _ h => h.picks [0, 0, 1] rfl) ?_
              refine at_take2 5 rfl (by kernel_rfl) (by kernel_rfl) (by kernel_rfl) (fun _ h => h.picks [0, 0, 1] rfl) rfl rfl (p_lbs ty9 rfl (j := 0) rfl rfl) (fun _ h => h.picks [0, 0, 1] rfl) ?_
              refine at_take1 6 rfl (by kernel_rfl) (by kernel_rfl) (by kernel_rfl) (by kernel_rfl) rfl rfl (p_lkm (vv := SV.v) (k := x4.Singer) (z := nilS) Tryz.underlying95 (keyF9) (fun _ => by kernel_rfl) (.imp (.fam 2 rfl) (fun _ h => h.map)) rfl rfl) (fun _ h => h.picks [0, 0, 0, 0] rfl) ?_
              refine at_take2 7 rfl (by kernel_rfl) (by kernel_rfl) (by kernel_rfl) (fun _ h => h.picks [0, 0, 1] rfl) rfl rfl (p_mv rfl) (fun _ h => h.picks [0, 0, 1] rfl) ?_
              refine at_take2 8 rfl (by kernel_rfl) (by kernel_rfl) (by kernel_rfl) (fun _ h => h.picks [0, 0, 1] rfl) rfl rfl (p_fab fl60_0 rfl) (fun _ h => h.picks [0, 0, 1] rfl) ?_
              refine at_take2 9 rfl (by kernel_rfl) (by kernel_rfl) (by kernel_rfl) (fun _ h => h.picks [0, 0, 1] rfl) rfl rfl (p_lbs ty3 rfl (j := 0) rfl rfl) (fun _ h => h.picks [0, 0, 1] rfl) ?_
              refine at_take2 10 rfl (by kernel_rfl) (by kernel_rfl) (by kernel_rfl) (fun _ h => h.picks [0, 0, 1] rfl) rfl rfl (p_bld [.int .i64 ((lkM u6.1 x4.Singer).getD 0), .int .i64 x4.At] rfl (fun _ => by kernel_rfl)) (fun _ h => h.picks [0, 0, 1] rfl) ?_
              refine at_each (rs := [11]) (by kernel_rfl) (by decide) ?_
              refine (.cons rfl (fun I cnI => ?_) .nil)
              · refine r_bs R100 [(TWindow.mk ((lkM u6.1 x4.Singer).getD 0) x4.At)] rfl rfl rfl (fun _ => by kernel_rfl) rfl (fun s26 => ?_)
                refine lj_nil ?_
                refine cnI _ _ (sof1 rfl rfl (fun _ h => h.picks [1, 1, 1, 1] rfl)) ?_
                refine at_each (rs := [12]) (by kernel_rfl) (by decide) ?_
                refine (.cons rfl (fun I cnI => ?_) .nil)
                · refine LJ.sat (fun _ h => h.takeR 3 rfl x4.Singer) ?_
                  refine r_app (k := 0) Tryz.underlying97 ty100 rfl rfl rfl rfl (.row 2 rfl) hq22 rfl (fun s28 => ?_)
                  refine lj_nil ?_
                  refine cnI _ _ (sof2 rfl rfl (fun _ h => h.picks [3, 3, 3] rfl)) ?_
                  refine at_each (rs := [13]) (by kernel_rfl) (by decide) ?_
                  refine (.cons rfl (fun I cnI => ?_) .nil)
                  · refine r_mpuF (x1 := q22) (g1 := s28) (k := x4.Singer) [1, 0] Tryz.underlying95 keyF9 rfl (.inr rfl) rfl rfl rfl (fun es29 cl30 => ?_)
                    refine lj_nil ?_
                    refine cnI _ _ (sof2 rfl rfl (fun _ h => h.picks [2, 2, 2] rfl)) ?_
                    refine at_done (by kernel_rfl) ?_
                    refine nj_blk ?_
                    refine nj_blk ?_
                    exact cnk8 _ _ (delM u6.1 x4.Singer, putM u6.2 x4.Singer q22) (es19, g7.2.1, putM g7.2.2.1 x4.Singer s28, es29, cl30) (hJk8 _ (Option.some.inj hm).symm) ⟨rfl, rfl, rfl, rfl, rfl, rfl, trivial⟩ (fun _ h => h.picks [3, 0, 2] rfl)
            · have hm := ifB_f hb hm
              refine cj_skip ?_
              refine nj_blk ?_
              refine nj_blk ?_
              exact cnk8 _ _ (delM u6.1 x4.Singer, u6.2) (es19, g7.2.1, g7.2.2.1, g7.2.2.2.1, g7.2.2.2.2) (hJk8 _ (Option.some.inj hm).symm) ⟨rfl, rfl, rfl, rfl, rfl, rfl, trivial⟩ (fun _ h => h.picks [1, 1, 1] rfl)
          · have hm := ifB_f hb hm
            refine cj_skip ?_
            refine nj_blk ?_
            refine nj_blk ?_
            exact cnk8 _ _ (u6.1, u6.2) (g7.1, g7.2.1, g7.2.2.1, g7.2.2.2.1, g7.2.2.2.2) (hJk8 _ (Option.some.inj hm).symm) ⟨rfl, rfl, rfl, rfl, rfl, rfl, trivial⟩ (fun _ h => h.picks [1, 1, 1] rfl)
        · have hm := hk18
          refine lp rfl (p_fab fl60_2 rfl) ?_
          refine lp rfl (p_lbs ty4 rfl (j := 0) rfl rfl) ?_
          refine lp rfl (p_mv rfl) ?_
          refine lcase (i := 44) x4.Left rfl (fun hb => ?_) (fun hb => ?_)
          · have hm := ifB_t hb hm
            refine lg true rfl rfl rfl ?_
            refine lp rfl (p_mv rfl) ?_
            refine lp rfl (p_pkt rfl rfl) ?_
            refine lp rfl (p_as rfl) ?_
            refine lj_nil ?_
            exact cnk18 _ _ (hasM u6.1 x4.Singer) () (Option.some.inj hm).symm ⟨rfl, rfl, rfl, rfl, rfl, rfl, rfl, rfl, rfl, trivial⟩ (fun _ h => h.picks [0, 0, 0, 0] rfl)
          · have hm := ifB_f hb hm
            refine ls true rfl rfl rfl rfl ?_
            refine lp rfl (p_pkf rfl rfl) ?_
            refine lp rfl (p_as rfl) ?_
            refine lj_nil ?_
            exact cnk18 _ _ false () (Option.some.inj hm).symm ⟨rfl, rfl, rfl, rfl, rfl, rfl, rfl, rfl, rfl, trivial⟩ (fun _ h => h.picks [0, 0, 0, 0] rfl)
    · have hm := hk13
      refine lp rfl (p_fab fl60_2 rfl) ?_
      refine lp rfl (p_lbs ty4 rfl (j := 0) rfl rfl) ?_
      refine lp rfl (p_not rfl) ?_
      refine lp rfl (p_mv rfl) ?_
      refine lcase (i := 32) (!x4.Left) rfl (fun hb => ?_) (fun hb => ?_)
      · have hm := ifB_t hb hm
        refine lg true rfl rfl rfl ?_
        refine lp rfl (p_mv rfl) ?_
        refine lg true rfl rfl rfl ?_
        refine lp rfl (p_not rfl) ?_
        refine lp rfl (p_pkt rfl rfl) ?_
        refine lp rfl (p_as rfl) ?_
        refine lj_nil ?_
        exact cnk13 _ _ (!(hasM u6.1 x4.Singer)) () (Option.some.inj hm).symm ⟨rfl, rfl, rfl, rfl, rfl, rfl, rfl, rfl, rfl, rfl, trivial⟩ (fun _ h => h.picks [0, 0, 0, 0] rfl)
      · have hm := ifB_f hb hm
        refine ls true rfl rfl rfl rfl ?_
        refine ls true rfl rfl rfl rfl ?_
        refine lp rfl (p_pkf rfl rfl) ?_
        refine lp rfl (p_as rfl) ?_
        refine lj_nil ?_
        exact cnk13 _ _ false () (Option.some.inj hm).symm ⟨rfl, rfl, rfl, rfl, rfl, rfl, rfl, rfl, rfl, rfl, trivial⟩ (fun _ h => h.picks [0, 0, 0, 0] rfl)
theorem ok_kit_Has (a0 : TWindow) (a1 : Int) {r : Bool} (hm : m_kit_Has a0 a1 = some r) :
    Ctr Tryz.prog 51 [.agg (R100.enc a0).toArray, .int .i64 a1].toArray ([] : List Ent) [] (X := Unit) (fun _ => .bool r) (fun _ => []) := by
  unfold m_kit_Has at hm
  refine ctr_mk (vs := [(0, .agg (R100.enc a0).toArray), (1, .int .i64 a1)]) Tryz.func51 rfl Tryz.ntmps51 rfl ⟨rfl, rfl, trivial⟩ (fun w0 A => ?_)
  refine cj_seq ?_
  refine cj_reg ?_
  refine r_bx (cs := [.int .i64 a0.From, .int .i64 a0.To]) rfl rfl rfl (fun b1 => ?_)
  refine lp rfl (p_as rfl) ?_
  refine lj_seq ?_
  refine cj_seq ?_
  refine cj_reg ?_
  refine lp rfl (p_fab fl100_0 rfl) ?_
  refine lp rfl (p_lbs ty3 rfl (j := 0) rfl rfl) ?_
  refine lp rfl (p_mv rfl) ?_
  refine lp rfl (p_leq rfl rfl) ?_
  refine lp rfl (p_mv rfl) ?_
  refine lcase (i := 9) (decide (a0.From ≤ a1)) rfl (fun hb => ?_) (fun hb => ?_)
  · have hm := ifB_t hb hm
    refine lg true rfl rfl rfl ?_
    refine lp rfl (p_mv rfl) ?_
    refine lg true rfl rfl rfl ?_
    refine lp rfl (p_fab fl100_1 rfl) ?_
    refine lg true rfl rfl rfl ?_
    refine lp rfl (p_lbs ty3 rfl (j := 0) rfl rfl) ?_
    refine lg true rfl rfl rfl ?_
    refine lp rfl (p_lss rfl rfl) ?_
    refine lp rfl (p_pkt rfl rfl) ?_
    refine lp rfl (p_as rfl) ?_
    refine lj_seq ?_
    obtain rfl := Option.some.inj hm
    exact cj_rt () [] Tryz.results51 (.tmp rfl .nil) rfl rfl
  · have hm := ifB_f hb hm
    refine ls true rfl rfl rfl rfl ?_
    refine ls true rfl rfl rfl rfl ?_
    refine ls true rfl rfl rfl rfl ?_
    refine ls true rfl rfl rfl rfl ?_
    refine lp rfl (p_pkf rfl rfl) ?_
    refine lp rfl (p_as rfl) ?_
    refine lj_seq ?_
    obtain rfl := Option.some.inj hm
    exact cj_rt () [] Tryz.results51 (.tmp rfl .nil) rfl rfl
theorem ok_rehearse_There_1 (a0 : TWindow) (b1_ : Nat) (a1_0 : Int) {r : Bool} (hm : m_rehearse_There_1 a0 a1_0 = some r) :
    Ctr Tryz.prog 50 [.agg (R100.enc a0).toArray, .pointer (some ⟨b1_, 0, none⟩)].toArray ([] : List Ent) [BoxS b1_ 3 [.int .i64 a1_0]] (X := Unit) (fun _ => .bool r) (fun _ => []) := by
  unfold m_rehearse_There_1 at hm
  refine ctr_mk (vs := [(0, .agg (R100.enc a0).toArray), (1, .pointer (some ⟨b1_, 0, none⟩))]) Tryz.func50 rfl Tryz.ntmps50 rfl ⟨rfl, rfl, trivial⟩ (fun w0 A => ?_)
  refine cj_seq ?_
  refine cj_reg ?_
  refine r_bx (cs := [.int .i64 a0.From, .int .i64 a0.To]) rfl rfl rfl (fun b1 => ?_)
  refine lp rfl (p_as rfl) ?_
  refine lj_seq ?_
  refine cj_seq ?_
  refine cj_reg ?_
  refine lp rfl (p_lbw ty100 rfl (j := 0) rfl rfl) ?_
  refine lp rfl (p_rbs ty3 rfl (.ro 1 rfl) rfl) ?_
  obtain ⟨y2, hy2, hm⟩ := bindS hm
  refine r_call [] cf51 rfl rfl (ok_kit_Has a0 a1_0 hy2) rfl rfl .nil (fun _ => rfl) rfl (fun _ => ?_)
  refine lp rfl (p_as rfl) ?_
  refine lj_seq ?_
  obtain rfl := Option.some.inj hm
  exact cj_rt () [] Tryz.results50 (.tmp rfl .nil) rfl rfl
theorem ok_slices_IndexFunc_api_Window_api_Window__rehearse_There_1 (s0_ : SV) (a0 : (List TWindow)) (b1_c0_ : Nat) (a1_c0_0 : Int) {r : Int} (hm : m_slices_IndexFunc_api_Window_api_Window__rehearse_There_1 a0 a1_c0_0 = some r) :
    Ctr Tryz.prog 74 [s0_.v, .func (.func 50) #[] [.pointer (some ⟨b1_c0_, 0, none⟩)].toArray].toArray ([] : List Ent) [RdS R100 (SV.v s0_) a0, BoxS b1_c0_ 3 [.int .i64 a1_c0_0]] (X := Unit) (fun _ => .int .i64 r) (fun _ => []) := by
  unfold m_slices_IndexFunc_api_Window_api_Window__rehearse_There_1 at hm
  refine ctr_mk (vs := [(0, s0_.v), (1, .func (.func 50) #[] [.pointer (some ⟨b1_c0_, 0, none⟩)].toArray)]) Tryz.func74 rfl Tryz.ntmps74 rfl ⟨rfl, rfl, trivial⟩ (fun w0 A => ?_)
  refine cj_seq ?_
  refine cj_reg ?_
  refine lp rfl (p_as rfl) ?_
  refine lj_seq ?_
  refine cj_seq ?_
  refine cj_seq ?_
  refine cj_reg ?_
  refine lp rfl (p_mv rfl) ?_
  refine lp rfl (p_len Tryz.underlying97 rfl (.ro 0 rfl)) ?_
  refine lp rfl (p_mv rfl) ?_
  refine lj_seq ?_
  obtain ⟨f7, hf7, hm⟩ := bindS hm
  refine cj_range (γ := Unit) (m := (a0.length : Int)) hf7 () (fun u4 g5 => [(0, s0_.v), (1, .func (.func 50) #[] [.pointer (some ⟨b1_c0_, 0, none⟩)].toArray), (4, .int .i64 0)]) (fun u4 g5 => Sat w0 (keys ([] : List Ent)) A [.ro (RdS R100 (SV.v s0_) a0), .ro (BoxS b1_c0_ 3 [.int .i64 a1_c0_0])]) ⟨rfl, rfl, rfl, rfl, rfl, trivial⟩ (fun _ h => h.picks [0, 0] rfl) (nat_lt _) (fun _ h => (FactAt.get (F := RdS R100 (SV.v s0_) a0) (.ro 0 rfl) h).1) (fun _ _ => ⟨rfl, rfl, rfl, rfl⟩) ⟨rfl, rfl, rfl, rfl, rfl⟩ rfl rfl rfl (fun u4 g5 e => ?_) (fun aftk6 i1 x2 u4 g5 k6 hx3 hs J hJk6 hBk6 hX I cnk6 => ?_)
  · have hm := Flow.fin_b e hm
    refine nj_seq ?_
    refine cj_seq ?_
    refine cj_reg ?_
    refine lp rfl (p_as rfl) ?_
    refine lj_seq ?_
    obtain rfl := Option.some.inj hm
    exact cj_rt () [] Tryz.results74 (.tmp rfl .nil) rfl rfl
  · have hRk6 : ∀ t, k6 = .ret t → some t = some r := fun t e => by rw [hX t e] at hm; exact hm
    have hm := hs
    refine cj_seq ?_
    refine cj_reg ?_
    refine lp rfl (p_mv rfl) ?_
    refine lp rfl (p_as rfl) ?_
    refine lj_seq ?_
    refine cj_seq ?_
    refine cj_reg ?_
    refine lp rfl (p_mv rfl) ?_
    refine lp rfl (p_mv rfl) ?_
    refine lp rfl (p_mv rfl) ?_
    refine lp rfl (p_idx Tryz.underlying97 ty100 rfl rfl (.ro 0 rfl) (getI_nat.trans hx3)) ?_
    refine lp rfl (p_lea ty100 rfl (.ro 0 rfl) hx3) ?_
    obtain ⟨y8, hy8, hm⟩ := bindS hm
    refine r_call [] cf50 rfl rfl (ok_rehearse_There_1 x2 b1_c0_ a1_c0_0 hy8) rfl rfl (.cons (.ro 1 rfl) .nil) (fun _ => rfl) rfl (fun _ => ?_)
    refine lj_seq ?_
    refine cj_if (b := y8) rfl (fun hb => ?_) (fun hb => ?_)
    · have hm := ifB_t hb hm
      refine cj_seq ?_
      refine cj_reg ?_
      refine lp rfl (p_mv rfl) ?_
      refine lp rfl (p_as rfl) ?_
      refine lj_seq ?_
      have hm := hRk6 _ (Option.some.inj hm).symm
      obtain rfl := Option.some.inj hm
      exact cj_rt () [] Tryz.results74 (.tmp rfl .nil) rfl rfl
    · have hm := ifB_f hb hm
      refine cj_skip ?_
      refine nj_blk ?_
      exact cnk6 _ _ () () (hJk6 _ (Option.some.inj hm).symm) ⟨rfl, rfl, rfl, rfl, rfl, trivial⟩ (fun _ h => h.picks [0, 0] rfl)
theorem ok_slices_ContainsFunc_api_Window_api_Window__rehearse_There_1 (s0_ : SV) (a0 : (List TWindow)) (b1_c0_ : Nat) (a1_c0_0 : Int) {r : Bool} (hm : m_slices_ContainsFunc_api_Window_api_Window__rehearse_There_1 a0 a1_c0_0 = some r) :
    Ctr Tryz.prog 49 [s0_.v, .func (.func 50) #[] [.pointer (some ⟨b1_c0_, 0, none⟩)].toArray].toArray ([] : List Ent) [RdS R100 (SV.v s0_) a0, BoxS b1_c0_ 3 [.int .i64 a1_c0_0]] (X := Unit) (fun _ => .bool r) (fun _ => []) := by
  unfold m_slices_ContainsFunc_api_Window_api_Window__rehearse_There_1 at hm
  refine ctr_mk (vs := [(0, s0_.v), (1, .func (.func 50) #[] [.pointer (some ⟨b1_c0_, 0, none⟩)].toArray)]) Tryz.func49 rfl Tryz.ntmps49 rfl ⟨rfl, rfl, trivial⟩ (fun w0 A => ?_)
  refine cj_seq ?_
  refine cj_reg ?_
  refine lp rfl (p_as rfl) ?_
  refine lj_seq ?_
  refine cj_seq ?_
  refine cj_reg ?_
  refine lp rfl (p_mv rfl) ?_
  refine lp rfl (p_mv rfl) ?_
  obtain ⟨y1, hy1, hm⟩ := bindS hm
  refine r_call [] cf74 rfl rfl (ok_slices_IndexFunc_api_Window_api_Window__rehearse_There_1 s0_ a0 b1_c0_ a1_c0_0 hy1) rfl rfl (.cons (.ro 0 rfl) (.cons (.ro 1 rfl) .nil)) (fun _ => rfl) rfl (fun _ => ?_)
  refine lp rfl (p_geq rfl rfl) ?_
  refine lp rfl (p_as rfl) ?_
  refine lj_seq ?_
  obtain rfl := Option.some.inj hm
  exact cj_rt () [] Tryz.results49 (.tmp rfl .nil) rfl rfl
theorem ok_maps_Keys_map_string_bool_string_bool (m : Nat) : Ctr Tryz.prog 53 [.map (some m)].toArray ([] : List Ent) [] (X := Nat) (fun b => .func (.func 77) #[] [.pointer (some ⟨b, 0, none⟩)].toArray) (fun b => [.box b 94 [.map (some m)]]) := by
  refine ctr_mk (vs := [(0, .map (some m))]) Tryz.func53 rfl Tryz.ntmps53 rfl ⟨rfl, trivial⟩ (fun w0 A => ?_)
  refine cj_seq ?_
  refine cj_reg ?_
  refine r_bx (cs := [.map (some m)]) rfl rfl rfl (fun b => ?_)
  refine lp rfl (p_as rfl) ?_
  refine lj_seq ?_
  refine cj_seq ?_
  refine cj_reg ?_
  refine lp rfl (p_fn (cv := [.pointer (some ⟨b, 0, none⟩)]) rfl) ?_
  refine lp rfl (p_as rfl) ?_
  refine lj_seq ?_
  exact cj_rt b [0] Tryz.results53 (.tmp rfl .nil) rfl rfl
theorem ok_slices_Sorted_string__maps_Keys_map_string_bool_string_bool_1_A (bx mb : Nat) (mes : Array MapEntry) (mcl : Nat) (L : List (ByteArray × Bool)) (hl : L.length ≤ 1000000000) :
    Ctr Tryz.prog 105 [SV.v nilS, .func (.func 77) #[] [.pointer (some ⟨bx, 0, none⟩)].toArray].toArray [.row R9 (SV.v nilS) []] [BoxS bx 94 [.map (some mb)], MapAt kv9 mb (mpV vv4 L) mes mcl] (X := SV × {q : List ByteArray // q.Perm (L.map Prod.fst)}) (fun s => s.1.v) (fun s => [.row R9 (SV.v s.1) s.2.1]) := by
  refine ctr_mkM (vs := [(0, SV.v nilS), (1, .func (.func 77) #[] [.pointer (some ⟨bx, 0, none⟩)].toArray)]) Tryz.func105 rfl Tryz.ntmps105 rfl ⟨rfl, rfl, trivial⟩ (fun w0 A => ?_)
  refine cj_seq ?_
  refine cj_reg ?_
  refine r_bx (cs := [SV.v nilS]) rfl rfl rfl (fun b1 => ?_)
  refine lp rfl (p_as rfl) ?_
  refine lj_seq ?_
  refine cj_seq ?_
  refine cj_seq ?_
  refine cj_reg ?_
  refine lp rfl (p_mv rfl) ?_
  refine lj_seq ?_
  refine cj_keys (γ := SV) (fn := Tryz.f77) (vv := vv4) (ρ := List ByteArray) Tryz.func77 rfl rfl rfl Tryz.underlying94 ty94 cf77 rfl rfl (by kernel_rfl) (by kernel_rfl) (appStep_all (by_ := 16) (by decide) (by rw [List.length_map]; omega)) (fun u g => [.box b1 56 [g.v], .ro (BoxS bx 94 [.map (some mb)]), .ro (MapAt kv9 mb (mpV vv4 L) mes mcl), .row R9 (SV.v g) u]) nilS (fun _ h => h.picks [0, 1, 1, 0] rfl) (fun _ _ => (.ro 1 rfl)) (fun _ _ => (.ro 2 rfl)) (fun u g D aft => ?_) (fun i x u g k hs o1 o2 o3 oi I I0 hend hmid => ?_)
  · refine nj_seq ?_
    refine cj_seq ?_
    refine cj_reg ?_
    refine lp rfl (p_lbs ty56 rfl (j := 1) rfl rfl) ?_
    refine lp rfl (p_as rfl) ?_
    refine lj_seq ?_
    exact cj_rtM 0 (g, ⟨u, KfP_brk aft⟩) [4] Tryz.results105 rfl (.tmp rfl .nil) rfl rfl
  · have hm := hs
    refine cj_reg ?_
    refine lp rfl (p_as rfl) ?_
    refine lj_nil ?_
    refine hmid _ _ [.obj oi, .box b1 56 [g.v], .ro (BoxS bx 94 [.map (some mb)]), .ro (MapAt kv9 mb (mpV vv4 L) mes mcl), .row R9 (SV.v g) u] (fun _ h => h.picks [0, 0, 0, 0, 0, 0, 0] rfl) ?_
    refine cj_blk ?_
    refine cj_reg ?_
    refine lp rfl (p_lbs ty56 rfl (j := 3) rfl rfl) ?_
    refine lp rfl (p_mv rfl) ?_
    refine r_bs R9 [x] rfl rfl rfl (fun _ => by kernel_rfl) rfl (fun s13 => ?_)
    obtain ⟨q, hq, hm⟩ := bindS hm
    refine r_app (k := 7) Tryz.underlying56 ty9 rfl rfl rfl rfl (.row 0 rfl) hq rfl (fun s15 => ?_)
    refine r_sb (vs := [s15.v]) (j := 4) ty56 rfl rfl rfl rfl rfl rfl rfl ?_
    refine lj_nil ?_
    refine nj_blk ?_
    exact hend _ _ q s15 (Option.some.inj hm).symm (fun _ h => h.picks [1, 1, 1, 1, 1, 1, 1] rfl)
theorem ok_slices_Sorted_string__maps_Keys_map_string_bool_string_bool_1_C (bx mb : Nat) (mes : Array MapEntry) (mcl : Nat) (L : List (ByteArray × Bool)) (hl : L.length ≤ 1000000000) :
    Ctr Tryz.prog 75 [.func (.func 77) #[] [.pointer (some ⟨bx, 0, none⟩)].toArray].toArray ([] : List Ent) [BoxS bx 94 [.map (some mb)], MapAt kv9 mb (mpV vv4 L) mes mcl] (X := SV × {q : List ByteArray // q.Perm (L.map Prod.fst)}) (fun s => s.1.v) (fun s => [.row R9 (SV.v s.1) s.2.1]) := by
  refine ctr_mk (vs := [(0, .func (.func 77) #[] [.pointer (some ⟨bx, 0, none⟩)].toArray)]) Tryz.func75 rfl Tryz.ntmps75 rfl ⟨rfl, trivial⟩ (fun w0 A => ?_)
  refine cj_seq ?_
  refine cj_reg ?_
  refine lp rfl (p_as rfl) ?_
  refine lj_seq ?_
  refine cj_seq ?_
  refine cj_reg ?_
  refine lp rfl (p_mv rfl) ?_
  refine r_nil R9 ?_
  refine r_call [0] cf105 rfl rfl (ok_slices_Sorted_string__maps_Keys_map_string_bool_string_bool_1_A bx mb mes mcl L hl) rfl rfl (.cons (.ro 0 rfl) (.cons (.ro 1 rfl) .nil)) (fun _ => rfl) rfl (fun s3 => ?_)
  refine lp rfl (p_as rfl) ?_
  refine lj_seq ?_
  exact cj_rt s3 [0] Tryz.results75 (.tmp rfl .nil) rfl rfl
theorem ok_slices_Sorted_string__maps_Keys_map_string_bool_string_bool_1 (bx mb : Nat) (mes : Array MapEntry) (mcl : Nat) (L : List (ByteArray × Bool)) {r : List ByteArray} (hm : m_slices_Sorted_string__maps_Keys_map_string_bool_string_bool_1 L = some r) :
    Ctr Tryz.prog 52 [.func (.func 77) #[] [.pointer (some ⟨bx, 0, none⟩)].toArray].toArray ([] : List Ent) [BoxS bx 94 [.map (some mb)], MapAt kv9 mb (mpV vv4 L) mes mcl] (X := SV) (fun s => s.v) (fun s => [.row R9 (SV.v s) r]) := by
  unfold m_slices_Sorted_string__maps_Keys_map_string_bool_string_bool_1 at hm
  split at hm
  case isFalse => cases hm
  rename_i hl
  refine ctr_mk (vs := [(0, .func (.func 77) #[] [.pointer (some ⟨bx, 0, none⟩)].toArray)]) Tryz.func52 rfl Tryz.ntmps52 rfl ⟨rfl, trivial⟩ (fun w0 A => ?_)
  refine cj_seq ?_
  refine cj_reg ?_
  refine lp rfl (p_as rfl) ?_
  refine lj_seq ?_
  refine cj_seq ?_
  refine cj_reg ?_
  refine lp rfl (p_mv rfl) ?_
  refine r_call [] cf75 rfl rfl (ok_slices_Sorted_string__maps_Keys_map_string_bool_string_bool_1_C bx mb mes mcl L hl) rfl rfl (.cons (.ro 0 rfl) (.cons (.ro 1 rfl) .nil)) (fun _ => rfl) rfl (fun s2 => ?_)
  obtain ⟨s2, q, hq⟩ := s2
  have hm := (m_Sort_perm hq).trans hm
  refine lp rfl (p_as rfl) ?_
  refine lj_seq ?_
  refine cj_seq ?_
  refine cj_reg ?_
  refine lp rfl (p_mv rfl) ?_
  refine r_call [0] cf76 rfl rfl (ok_slices_Sort_string_string s2 q hm) rfl rfl .nil (fun _ => rfl) rfl (fun _ => ?_)
  refine lj_seq ?_
  refine cj_seq ?_
  refine cj_reg ?_
  refine lp rfl (p_mv rfl) ?_
  refine lp rfl (p_as rfl) ?_
  refine lj_seq ?_
  exact cj_rt s2 [0] Tryz.results52 (.tmp rfl .nil) rfl rfl
theorem ok_rehearse_There (s0_ : SV) (a0 : (List TCame)) (a1 : Int) {r : (List ByteArray) × Int} (hm : m_rehearse_There a0 a1 = some r) :
    Ctr Tryz.prog 26 [s0_.v, .int .i64 a1].toArray ([] : List Ent) [RdS R60 (SV.v s0_) a0] (X := SV) (fun s => .tuple [s.v, .int .i64 r.2].toArray) (fun s => [.row R9 (SV.v s) r.1]) := by
  unfold m_rehearse_There at hm
  refine ctr_mk (vs := [(0, s0_.v), (1, .int .i64 a1)]) Tryz.func26 rfl Tryz.ntmps26 rfl ⟨rfl, rfl, trivial⟩ (fun w0 A => ?_)
  refine cj_seq ?_
  refine cj_reg ?_
  refine r_bx (cs := [.int .i64 a1]) rfl rfl rfl (fun b1 => ?_)
  refine lp rfl (p_as rfl) ?_
  refine lp rfl (p_as rfl) ?_
  refine lj_seq ?_
  refine cj_seq ?_
  refine cj_seq ?_
  refine cj_reg ?_
  refine lp rfl (p_mv rfl) ?_
  obtain ⟨y2, hy2, hm⟩ := bindS hm
  refine r_call [] cf46 rfl rfl (ok_rehearse_CheckCame s0_ a0 hy2) rfl rfl (.cons (.ro 1 rfl) .nil) (fun _ => rfl) rfl (fun _ => ?_)
  refine lp rfl (p_as rfl) ?_
  refine lj_seq ?_
  refine cj_seq ?_
  refine cj_reg ?_
  refine lp rfl (p_mv rfl) ?_
  refine lp rfl (p_neq rfl rfl) ?_
  refine lj_seq ?_
  refine cj_if (b := y2 != 0) rfl (fun hb => ?_) (fun hb => ?_)
  · have hm := ifB_t hb hm
    refine cj_seq ?_
    refine cj_reg ?_
    refine lp rfl (p_mv rfl) ?_
    refine lp rfl (p_as rfl) ?_
    refine lp rfl (p_as rfl) ?_
    refine lj_seq ?_
    obtain rfl := Option.some.inj hm
    refine cj_nil R9 ?_
    exact cj_rt nilS [0] Tryz.results26 (.tmp rfl (.tmp rfl .nil)) rfl rfl
  · have hm := ifB_f hb hm
    refine cj_skip ?_
    refine nj_seq ?_
    refine cj_seq ?_
    refine cj_seq ?_
    refine cj_reg ?_
    refine lp rfl (p_lbs ty3 rfl (j := 0) rfl rfl) ?_
    obtain ⟨y4, hy4, hm⟩ := bindS hm
    refine r_call [] cf47 rfl rfl (ok_kit_IsMoment a1 hy4) rfl rfl .nil (fun _ => rfl) rfl (fun _ => ?_)
    refine lp rfl (p_not rfl) ?_
    refine lj_seq ?_
    refine cj_if (b := !y4) rfl (fun hb => ?_) (fun hb => ?_)
    · have hm := ifB_t hb hm
      refine cj_seq ?_
      refine cj_reg ?_
      refine lp rfl (p_as rfl) ?_
      refine lp rfl (p_as rfl) ?_
      refine lj_seq ?_
      obtain rfl := Option.some.inj hm
      refine cj_nil R9 ?_
      exact cj_rt nilS [0] Tryz.results26 (.tmp rfl (.tmp rfl .nil)) rfl rfl
    · have hm := ifB_f hb hm
      refine cj_skip ?_
      refine nj_seq ?_
      refine cj_seq ?_
      refine cj_reg ?_
      refine r_mkmap kv9 vv4 rfl (fun b6 => ?_)
      refine lp rfl (p_as rfl) ?_
      refine lj_seq ?_
      refine cj_seq ?_
      refine cj_seq ?_
      refine cj_reg ?_
      refine lp rfl (p_mv rfl) ?_
      obtain ⟨y7, hy7, hm⟩ := bindS hm
      refine r_call [] cf48 rfl rfl (ok_rehearse_presences s0_ a0 hy7) rfl rfl (.cons (.ro 2 rfl) .nil) (fun _ => rfl) rfl (fun ⟨b8, gz9, gz10, gz11⟩ => ?_)
      refine r_rng (vv := SV.v) Tryz.underlying95 (.imp (.fam 0 rfl) (fun _ h => h.map)) rfl rfl (fun b12 hrb13 => ?_)
      refine lj_seq ?_
      refine cj_pure (F := FamAt kv9 SV.v (rowE R100) b8 y7 gz9 none gz10 gz11) (.fam 1 rfl) (fun _ h => h.kys) (fun hky19 => ?_)
      refine cj_fact (F := fun _ => KeptK (y7.map Prod.fst) gz10 gz11 gz9 gz10 gz11) (.tru (KeptK.refl _ hky19)) ?_
      have hsq := anyOrd_spec hm
      refine cj_frange (γ := (Array MapEntry × Nat)) (vv := SV.v) (fun u21 g22 => gz9) (fun u21 g22 => gz10) (fun u21 g22 => gz11) (fun L hL => hsq L hL) hrb13 (#[], 0) (fun u21 g22 => [(3, .pointer (some ⟨b1, 0, none⟩)), (4, .slice none 0 0), (5, .int .i64 0), (7, .map (some b6))]) (fun u21 g22 => [.ro (fun _ => KeptK (y7.map Prod.fst) gz10 gz11 gz9 gz10 gz11), .obj (famO kv9 SV.v (rowE R100) b8 y7 gz9 none gz10 gz11), .obj (mapO kv9 b6 (mpV vv4 u21) g22.1 g22.2), .box b1 3 [.int .i64 a1]]) ⟨rfl, rfl, rfl, rfl, rfl, trivial⟩ (fun _ h => h.picks [1, 0, 0, 0, 0] rfl) (fun _ _ => .and (.imp (.fam 1 rfl) (fun _ h => h.map)) (.ro 0 rfl)) (fun _ _ => ⟨rfl, rfl, rfl⟩) ⟨rfl, rfl, rfl⟩ rfl rfl (fun u21 g22 e => ?_) (fun aftk23 i14 x15 u21 g22 idx18 ix17 k23 hx16 hs J hJk23 hBk23 hX I cnk23 => ?_)
      · have hm := Flow.fin_b (f := .brk u21) rfl e
        refine NJ.sat (fun _ h => h.picks [1, 1, 1] rfl) ?_
        refine nj_seq ?_
        refine cj_seq ?_
        refine cj_reg ?_
        refine lp rfl (p_mv rfl) ?_
        refine r_call [] cf53 rfl rfl (ok_maps_Keys_map_string_bool_string_bool b6) rfl rfl .nil (fun _ => rfl) rfl (fun b29 => ?_)
        refine r_fzb 0 rfl ?_
        obtain ⟨y30, hy30, hm⟩ := bindS hm
        refine r_call [] cf52 rfl rfl (ok_slices_Sorted_string__maps_Keys_map_string_bool_string_bool_1 b29 b6 g22.1 g22.2 u21 hy30) rfl rfl (.cons (.ro 0 rfl) (.cons (.map 2 rfl) .nil)) (fun _ => rfl) rfl (fun s31 => ?_)
        refine lp rfl (p_as rfl) ?_
        refine lp rfl (p_as rfl) ?_
        refine lj_seq ?_
        obtain rfl := Option.some.inj hm
        exact cj_rt s31 [0] Tryz.results26 (.tmp rfl (.tmp rfl .nil)) rfl rfl
      · have hRk23 : ∀ t, k23 = .ret t → some t = some r := fun t e => hX t e
        have hm := hs
        refine cj_pure (F := fun _ => KeptK (y7.map Prod.fst) gz10 gz11 gz9 gz10 gz11) (.ro 1 rfl) (fun _ h => h) (fun hkp25 => ?_)
        refine cj_seq ?_
        refine cj_reg ?_
        refine lp rfl (p_entF (n := 0) (k := x15) (z := nilS) (.fam 2 rfl) hkp25 rfl hx16 rfl) ?_
        refine lp rfl (p_ext rfl rfl) ?_
        refine lp rfl (p_ext rfl rfl) ?_
        refine lp rfl (p_as rfl) ?_
        refine lp rfl (p_as rfl) ?_
        refine lj_seq ?_
        refine cj_seq ?_
        refine cj_reg ?_
        refine lp rfl (p_mv rfl) ?_
        refine lp rfl (p_fn (cv := [.pointer (some ⟨b1, 0, none⟩)]) rfl) ?_
        obtain ⟨y26, hy26, hm⟩ := bindS hm
        refine r_call [] cf49 rfl rfl (ok_slices_ContainsFunc_api_Window_api_Window__rehearse_There_1 ((lkM gz9 x15).getD nilS) ((lkM y7 x15).getD []) b1 a1 hy26) rfl rfl (.cons (.imp (.fam 2 rfl) (fun _ h => h.look x15)) (.cons (.imp (.box 4 rfl) (fun _ h => h)) .nil)) (fun _ => rfl) rfl (fun _ => ?_)
        refine lj_seq ?_
        refine cj_if (b := y26) rfl (fun hb => ?_) (fun hb => ?_)
        · have hm := ifB_t hb hm
          refine cj_reg ?_
          refine lp rfl (p_mv rfl) ?_
          refine lp rfl (p_mv rfl) ?_
          refine r_mpu (j := 3) (vv := vv4) (k := x15) (v := true) Tryz.underlying94 keyF9 rfl rfl rfl rfl (fun es27 cl28 => ?_)
          refine lj_nil ?_
          refine nj_blk ?_
          exact cnk23 _ _ (putM u21 x15 true) (es27, cl28) (hJk23 _ (Option.some.inj hm).symm) ⟨rfl, rfl, rfl, rfl, rfl, trivial⟩ (fun _ h => h.picks [0, 0, 0, 0, 0] rfl)
        · have hm := ifB_f hb hm
          refine cj_skip ?_
          refine nj_blk ?_
          exact cnk23 _ _ u21 (g22.1, g22.2) (hJk23 _ (Option.some.inj hm).symm) ⟨rfl, rfl, rfl, rfl, rfl, trivial⟩ (fun _ h => h.picks [0, 0, 0, 0, 0] rfl)
theorem ok_concert_CheckItems_1 (a0 : TItem) (s0_3_ : SV) (b1_ : Nat) (a1_0 : ByteArray) (a1_1 : ByteArray) (a1_2 : Int) (s1_3_ : SV) (a1_3 : (List ByteArray)) {r : Bool} (hm : m_concert_CheckItems_1 a0 a1_0 a1_1 a1_2 a1_3 = some r) :
    Ctr Tryz.prog 108 [.agg [.string a0.Key, .string a0.Places, .int .i64 a0.Long, s0_3_.v].toArray, .pointer (some ⟨b1_, 0, none⟩)].toArray ([] : List Ent) [RdS R9 (SV.v s0_3_) a0.Parts, BoxS b1_ 65 [.string a1_0, .string a1_1, .int .i64 a1_2, s1_3_.v], RdS R9 (SV.v s1_3_) a1_3] (X := Unit) (fun _ => .bool r) (fun _ => []) := by
  unfold m_concert_CheckItems_1 at hm
  refine ctr_mk (vs := [(0, .agg [.string a0.Key, .string a0.Places, .int .i64 a0.Long, s0_3_.v].toArray), (1, .pointer (some ⟨b1_, 0, none⟩))]) Tryz.func108 rfl Tryz.ntmps108 rfl ⟨rfl, rfl, trivial⟩ (fun w0 A => ?_)
  refine cj_seq ?_
  refine cj_reg ?_
  refine r_bx (cs := [.string a0.Key, .string a0.Places, .int .i64 a0.Long, s0_3_.v]) rfl rfl rfl (fun b1 => ?_)
  refine lp rfl (p_as rfl) ?_
  refine lj_seq ?_
  refine cj_seq ?_
  refine cj_reg ?_
  refine lp rfl (p_fab fl65_0 rfl) ?_
  refine lp rfl (p_lbs ty9 rfl (j := 0) rfl rfl) ?_
  refine lp rfl (p_fab fl65_0 rfl) ?_
  refine lp rfl (p_rbs ty9 rfl (.ro 2 rfl) rfl) ?_
  refine lp rfl (p_eqs rfl rfl) ?_
  refine lp rfl (p_as rfl) ?_
  refine lj_seq ?_
  obtain rfl := Option.some.inj hm
  exact cj_rt () [] Tryz.results108 (.tmp rfl .nil) rfl rfl
theorem ok_slices_IndexFunc_api_Item_api_Item__concert_CheckItems_1 (s0_ : SV) (xg0_ : List (TItem × SV)) (a0 : (List TItem)) (b1_c0_ : Nat) (a1_c0_0 : ByteArray) (a1_c0_1 : ByteArray) (a1_c0_2 : Int) (s1_c0_3_ : SV) (a1_c0_3 : (List ByteArray)) {r : Int} (hm : m_slices_IndexFunc_api_Item_api_Item__concert_CheckItems_1 a0 a1_c0_0 a1_c0_1 a1_c0_2 a1_c0_3 = some r) :
    Ctr Tryz.prog 157 [s0_.v, .func (.func 108) #[] [.pointer (some ⟨b1_c0_, 0, none⟩)].toArray].toArray ([] : List Ent) [Lk N65 a0 xg0_, RdS N65.R (SV.v s0_) xg0_, BoxS b1_c0_ 65 [.string a1_c0_0, .string a1_c0_1, .int .i64 a1_c0_2, s1_c0_3_.v], RdS R9 (SV.v s1_c0_3_) a1_c0_3] (X := Unit) (fun _ => .int .i64 r) (fun _ => []) := by
  unfold m_slices_IndexFunc_api_Item_api_Item__concert_CheckItems_1 at hm
  refine ctr_mk (vs := [(0, s0_.v), (1, .func (.func 108) #[] [.pointer (some ⟨b1_c0_, 0, none⟩)].toArray)]) Tryz.func157 rfl Tryz.ntmps157 rfl ⟨rfl, rfl, trivial⟩ (fun w0 A => ?_)
  refine cj_pure (F := Lk N65 a0 xg0_) (.ro 0 rfl) (fun _ h => h.1) (fun hL0_ => ?_)
  refine cj_seq ?_
  refine cj_reg ?_
  refine lp rfl (p_as rfl) ?_
  refine lj_seq ?_
  refine cj_seq ?_
  refine cj_seq ?_
  refine cj_reg ?_
  refine lp rfl (p_mv rfl) ?_
  refine lp rfl (p_lenG hL0_ Tryz.underlying66 rfl (.ro 1 rfl)) ?_
  refine lp rfl (p_mv rfl) ?_
  refine lj_seq ?_
  obtain ⟨f7, hf7, hm⟩ := bindS hm
  refine cj_range (γ := Unit) (m := (a0.length : Int)) hf7 () (fun u4 g5 => [(0, s0_.v), (1, .func (.func 108) #[] [.pointer (some ⟨b1_c0_, 0, none⟩)].toArray), (4, .int .i64 0)]) (fun u4 g5 => Sat w0 (keys ([] : List Ent)) A [.ro (Lk N65 a0 xg0_), .ro (RdS N65.R (SV.v s0_) xg0_), .ro (BoxS b1_c0_ 65 [.string a1_c0_0, .string a1_c0_1, .int .i64 a1_c0_2, s1_c0_3_.v]), .ro (RdS R9 (SV.v s1_c0_3_) a1_c0_3)]) ⟨rfl, rfl, rfl, rfl, rfl, trivial⟩ (fun _ h => h.picks [0, 0, 0, 0] rfl) (nat_lt _) (fun _ h => by have h1 := (FactAt.get (F := RdS N65.R (SV.v s0_) xg0_) (.ro 1 rfl) h).1; rw [lk_len hL0_] at h1; exact h1) (fun _ _ => ⟨rfl, rfl, rfl, rfl⟩) ⟨rfl, rfl, rfl, rfl, rfl⟩ rfl rfl rfl (fun u4 g5 e => ?_) (fun aftk6 i1 x2 u4 g5 k6 hx3 hs J hJk6 hBk6 hX I cnk6 => ?_)
  · have hm := Flow.fin_b e hm
    refine nj_seq ?_
    refine cj_seq ?_
    refine cj_reg ?_
    refine lp rfl (p_as rfl) ?_
    refine lj_seq ?_
    obtain rfl := Option.some.inj hm
    exact cj_rt () [] Tryz.results157 (.tmp rfl .nil) rfl rfl
  · have hRk6 : ∀ t, k6 = .ret t → some t = some r := fun t e => by rw [hX t e] at hm; exact hm
    have hm := hs
    refine cj_seq ?_
    refine cj_reg ?_
    refine lp rfl (p_mv rfl) ?_
    refine lp rfl (p_as rfl) ?_
    refine lj_seq ?_
    refine cj_seq ?_
    refine cj_reg ?_
    refine lp rfl (p_mv rfl) ?_
    refine lp rfl (p_mv rfl) ?_
    refine lp rfl (p_mv rfl) ?_
    obtain ⟨gx2, hx3G⟩ := lk_get hL0_ hx3
    refine lp rfl (p_idx Tryz.underlying66 ty65 rfl rfl (.ro 1 rfl) (getI_nat.trans hx3G)) ?_
    refine lp rfl (p_leaN (cs := [.string x2.Key, .string x2.Places, .int .i64 x2.Long, gx2.v]) ty65 rfl (.ro 1 rfl) hx3G rfl) ?_
    obtain ⟨y8, hy8, hm⟩ := bindS hm
    refine r_call [] cf108 rfl rfl (ok_concert_CheckItems_1 x2 gx2 b1_c0_ a1_c0_0 a1_c0_1 a1_c0_2 s1_c0_3_ a1_c0_3 hy8) rfl rfl (.cons (.imp (.ro 0 rfl) (fun _ h => (Lk.at_ h hx3G))) (.cons (.ro 2 rfl) (.cons (.ro 3 rfl) .nil))) (fun _ => rfl) rfl (fun _ => ?_)
    refine lj_seq ?_
    refine cj_if (b := y8) rfl (fun hb => ?_) (fun hb => ?_)
    · have hm := ifB_t hb hm
      refine cj_seq ?_
      refine cj_reg ?_
      refine lp rfl (p_mv rfl) ?_
      refine lp rfl (p_as rfl) ?_
      refine lj_seq ?_
      have hm := hRk6 _ (Option.some.inj hm).symm
      obtain rfl := Option.some.inj hm
      exact cj_rt () [] Tryz.results157 (.tmp rfl .nil) rfl rfl
    · have hm := ifB_f hb hm
      refine cj_skip ?_
      refine nj_blk ?_
      exact cnk6 _ _ () () (hJk6 _ (Option.some.inj hm).symm) ⟨rfl, rfl, rfl, rfl, rfl, trivial⟩ (fun _ h => h.picks [0, 0, 0, 0] rfl)
theorem ok_slices_ContainsFunc_api_Item_api_Item__concert_CheckItems_1 (s0_ : SV) (xg0_ : List (TItem × SV)) (a0 : (List TItem)) (b1_c0_ : Nat) (a1_c0_0 : ByteArray) (a1_c0_1 : ByteArray) (a1_c0_2 : Int) (s1_c0_3_ : SV) (a1_c0_3 : (List ByteArray)) {r : Bool} (hm : m_slices_ContainsFunc_api_Item_api_Item__concert_CheckItems_1 a0 a1_c0_0 a1_c0_1 a1_c0_2 a1_c0_3 = some r) :
    Ctr Tryz.prog 107 [s0_.v, .func (.func 108) #[] [.pointer (some ⟨b1_c0_, 0, none⟩)].toArray].toArray ([] : List Ent) [Lk N65 a0 xg0_, RdS N65.R (SV.v s0_) xg0_, BoxS b1_c0_ 65 [.string a1_c0_0, .string a1_c0_1, .int .i64 a1_c0_2, s1_c0_3_.v], RdS R9 (SV.v s1_c0_3_) a1_c0_3] (X := Unit) (fun _ => .bool r) (fun _ => []) := by
  unfold m_slices_ContainsFunc_api_Item_api_Item__concert_CheckItems_1 at hm
  refine ctr_mk (vs := [(0, s0_.v), (1, .func (.func 108) #[] [.pointer (some ⟨b1_c0_, 0, none⟩)].toArray)]) Tryz.func107 rfl Tryz.ntmps107 rfl ⟨rfl, rfl, trivial⟩ (fun w0 A => ?_)
  refine cj_pure (F := Lk N65 a0 xg0_) (.ro 0 rfl) (fun _ h => h.1) (fun hL0_ => ?_)
  refine cj_seq ?_
  refine cj_reg ?_
  refine lp rfl (p_as rfl) ?_
  refine lj_seq ?_
  refine cj_seq ?_
  refine cj_reg ?_
  refine lp rfl (p_mv rfl) ?_
  refine lp rfl (p_mv rfl) ?_
  obtain ⟨y1, hy1, hm⟩ := bindS hm
  refine r_call [] cf157 rfl rfl (ok_slices_IndexFunc_api_Item_api_Item__concert_CheckItems_1 s0_ xg0_ a0 b1_c0_ a1_c0_0 a1_c0_1 a1_c0_2 s1_c0_3_ a1_c0_3 hy1) rfl rfl (.cons (.ro 0 rfl) (.cons (.ro 1 rfl) (.cons (.ro 2 rfl) (.cons (.ro 3 rfl) .nil)))) (fun _ => rfl) rfl (fun _ => ?_)
  refine lp rfl (p_geq rfl rfl) ?_
  refine lp rfl (p_as rfl) ?_
  refine lj_seq ?_
  obtain rfl := Option.some.inj hm
  exact cj_rt () [] Tryz.results107 (.tmp rfl .nil) rfl rfl
theorem ok_concert_partsFault (s0_ : SV) (a0 : (List ByteArray)) {r : Int} (hm : m_concert_partsFault a0 = some r) :
    Ctr Tryz.prog 109 [s0_.v].toArray ([] : List Ent) [RdS R9 (SV.v s0_) a0] (X := Unit) (fun _ => .int .i64 r) (fun _ => []) := by
  unfold m_concert_partsFault at hm
  refine ctr_mk (vs := [(0, s0_.v)]) Tryz.func109 rfl Tryz.ntmps109 rfl ⟨rfl, trivial⟩ (fun w0 A => ?_)
  refine cj_seq ?_
  refine cj_reg ?_
  refine lp rfl (p_as rfl) ?_
  refine lj_seq ?_
  refine cj_seq ?_
  refine cj_seq ?_
  refine cj_reg ?_
  refine lp rfl (p_mv rfl) ?_
  refine lp rfl (p_len Tryz.underlying56 rfl (.ro 0 rfl)) ?_
  refine lp rfl (p_eql rfl rfl) ?_
  refine lj_seq ?_
  refine cj_if (b := (a0.length : Int) == 0) rfl (fun hb => ?_) (fun hb => ?_)
  · have hm := ifB_t hb hm
    refine cj_seq ?_
    refine cj_reg ?_
    refine lp rfl (p_as rfl) ?_
    refine lj_seq ?_
    obtain rfl := Option.some.inj hm
    exact cj_rt () [] Tryz.results109 (.tmp rfl .nil) rfl rfl
  · have hm := ifB_f hb hm
    refine cj_skip ?_
    refine nj_seq ?_
    refine cj_seq ?_
    refine cj_seq ?_
    refine cj_reg ?_
    refine lp rfl (p_mv rfl) ?_
    refine lp rfl (p_len Tryz.underlying56 rfl (.ro 0 rfl)) ?_
    refine lp rfl (p_gtr rfl rfl) ?_
    refine lj_seq ?_
    refine cj_if (b := decide ((a0.length : Int) > 12)) rfl (fun hb => ?_) (fun hb => ?_)
    · have hm := ifB_t hb hm
      refine cj_seq ?_
      refine cj_reg ?_
      refine lp rfl (p_as rfl) ?_
      refine lj_seq ?_
      obtain rfl := Option.some.inj hm
      exact cj_rt () [] Tryz.results109 (.tmp rfl .nil) rfl rfl
    · have hm := ifB_f hb hm
      refine cj_skip ?_
      refine nj_seq ?_
      refine cj_seq ?_
      refine cj_seq ?_
      refine cj_reg ?_
      refine lp rfl (p_mv rfl) ?_
      refine lp rfl (p_len Tryz.underlying56 rfl (.ro 0 rfl)) ?_
      refine lp rfl (p_mv rfl) ?_
      refine lj_seq ?_
      obtain ⟨f7, hf7, hm⟩ := bindS hm
      refine cj_range (γ := Unit) (m := (a0.length : Int)) hf7 () (fun u4 g5 => [(0, s0_.v), (2, .int .i64 0), (11, s0_.v)]) (fun u4 g5 => Sat w0 (keys ([] : List Ent)) A [.ro (RdS R9 (SV.v s0_) a0)]) ⟨rfl, rfl, rfl, rfl, rfl, trivial⟩ (fun _ h => h.picks [0] rfl) (nat_lt _) (fun _ h => (FactAt.get (F := RdS R9 (SV.v s0_) a0) (.ro 0 rfl) h).1) (fun _ _ => ⟨rfl, rfl, rfl, rfl⟩) ⟨rfl, rfl, rfl, rfl, rfl⟩ rfl rfl rfl (fun u4 g5 e => ?_) (fun aftk6 i1 x2 u4 g5 k6 hx3 hs J hJk6 hBk6 hX I cnk6 => ?_)
      · have hm := Flow.fin_b e hm
        refine nj_seq ?_
        refine cj_seq ?_
        refine cj_reg ?_
        refine lp rfl (p_as rfl) ?_
        refine lj_seq ?_
        obtain rfl := Option.some.inj hm
        exact cj_rt () [] Tryz.results109 (.tmp rfl .nil) rfl rfl
      · have hRk6 : ∀ t, k6 = .ret t → some t = some r := fun t e => by rw [hX t e] at hm; exact hm
        have hm := hs
        refine cj_seq ?_
        refine cj_reg ?_
        refine lp rfl (p_mv rfl) ?_
        refine lp rfl (p_idx Tryz.underlying56 ty9 rfl rfl (.ro 0 rfl) (getI_nat.trans hx3)) ?_
        refine lp rfl (p_lde (o := 0) ty9 rfl rfl (.ro 0 rfl) hx3 rfl) ?_
        refine lp rfl (p_as rfl) ?_
        refine lp rfl (p_as rfl) ?_
        refine lj_seq ?_
        refine cj_seq ?_
        refine cj_seq ?_
        refine cj_reg ?_
        refine lp rfl (p_mv rfl) ?_
        obtain ⟨y8, hy8, hm⟩ := bindS hm
        refine r_call [] cf71 rfl rfl (ok_kit_IsKey x2 hy8) rfl rfl .nil (fun _ => rfl) rfl (fun _ => ?_)
        refine lp rfl (p_not rfl) ?_
        refine lj_seq ?_
        refine cj_if (b := !y8) rfl (fun hb => ?_) (fun hb => ?_)
        · have hm := ifB_t hb hm
          refine cj_seq ?_
          refine cj_reg ?_
          refine lp rfl (p_as rfl) ?_
          refine lj_seq ?_
          have hm := hRk6 _ (Option.some.inj hm).symm
          obtain rfl := Option.some.inj hm
          exact cj_rt () [] Tryz.results109 (.tmp rfl .nil) rfl rfl
        · have hm := ifB_f hb hm
          refine cj_skip ?_
          refine nj_seq ?_
          refine cj_seq ?_
          refine cj_reg ?_
          obtain ⟨k11, hk11, hm⟩ := bindS hm
          have hRk11 : ∀ t, k11 = .inr t → some t = some k6 := fun t e => by rw [e] at hm; exact hm
          refine lj_join (σ := Bool) (γ := Unit) (fun u9 => k11 = .inl u9) (fun u9 g10 => [(0, s0_.v), (2, .int .i64 0), (11, s0_.v), (12, .int .i64 (a0.length : Int)), (13, .int .i64 (i1 : Int)), (31, .bool u9)]) (fun u9 g10 => Sat w0 (keys ([] : List Ent)) A [.ro (RdS R9 (SV.v s0_) a0)]) (fun u9 g10 hq => ?_) (fun J cnk11 => ?_)
          · have hm := Sum.fin_l hq hm
            refine cj_if (b := u9) rfl (fun hb => ?_) (fun hb => ?_)
            · have hm := ifB_t hb hm
              refine cj_seq ?_
              refine cj_reg ?_
              refine lp rfl (p_as rfl) ?_
              refine lj_seq ?_
              have hm := hRk6 _ (Option.some.inj hm).symm
              obtain rfl := Option.some.inj hm
              exact cj_rt () [] Tryz.results109 (.tmp rfl .nil) rfl rfl
            · have hm := ifB_f hb hm
              refine cj_skip ?_
              refine nj_blk ?_
              exact cnk6 _ _ () () (hJk6 _ (Option.some.inj hm).symm) ⟨rfl, rfl, rfl, rfl, rfl, trivial⟩ (fun _ h => h.picks [0] rfl)
          · have hm := hk11
            refine lp rfl (p_mv rfl) ?_
            refine lp rfl (p_gtr rfl rfl) ?_
            refine lp rfl (p_mv rfl) ?_
            refine lcase (i := 23) (decide ((i1 : Int) > 0)) rfl (fun hb => ?_) (fun hb => ?_)
            · have hm := ifB_t hb hm
              refine lg true rfl rfl rfl ?_
              refine lp rfl (p_mv rfl) ?_
              refine lg true rfl rfl rfl ?_
              refine lp rfl (p_mv rfl) ?_
              refine lg true rfl rfl rfl ?_
              refine lp rfl (p_mv rfl) ?_
              refine lg true rfl rfl rfl ?_
              refine lp rfl (p_sub rfl rfl) ?_
              refine lg true rfl rfl rfl ?_
              obtain ⟨e12, he12, hm⟩ := bindS hm
              refine lp rfl (p_idx Tryz.underlying56 ty9 rfl rfl (.ro 0 rfl) he12) ?_
              refine lg true rfl rfl rfl ?_
              refine lp rfl (p_lde (o := 0) ty9 rfl rfl (.ro 0 rfl) (getI_spec he12).2 rfl) ?_
              refine lg true rfl rfl rfl ?_
              refine lp rfl (p_les rfl rfl) ?_
              refine lp rfl (p_pkt rfl rfl) ?_
              refine lj_nil ?_
              exact cnk11 _ _ (Op.bytesLess x2.toList e12.toList || x2.toList == e12.toList) () (Option.some.inj hm).symm ⟨rfl, rfl, rfl, rfl, rfl, rfl, trivial⟩ (fun _ h => h.picks [0] rfl)
            · have hm := ifB_f hb hm
              refine ls true rfl rfl rfl rfl ?_
              refine ls true rfl rfl rfl rfl ?_
              refine ls true rfl rfl rfl rfl ?_
              refine ls true rfl rfl rfl rfl ?_
              refine ls true rfl rfl rfl rfl ?_
              refine ls true rfl rfl rfl rfl ?_
              refine ls true rfl rfl rfl rfl ?_
              refine lp rfl (p_pkf rfl rfl) ?_
              refine lj_nil ?_
              exact cnk11 _ _ false () (Option.some.inj hm).symm ⟨rfl, rfl, rfl, rfl, rfl, rfl, trivial⟩ (fun _ h => h.picks [0] rfl)
theorem ok_concert_CheckItems (s0_ : SV) (xg0_ : List (TItem × SV)) (a0 : (List TItem)) {r : Int} (hm : m_concert_CheckItems a0 = some r) :
    Ctr Tryz.prog 78 [s0_.v].toArray ([] : List Ent) [Lk N65 a0 xg0_, RdS N65.R (SV.v s0_) xg0_] (X := Unit) (fun _ => .int .i64 r) (fun _ => []) := by
  unfold m_concert_CheckItems at hm
  refine ctr_mk (vs := [(0, s0_.v)]) Tryz.func78 rfl Tryz.ntmps78 rfl ⟨rfl, trivial⟩ (fun w0 A => ?_)
  refine cj_pure (F := Lk N65 a0 xg0_) (.ro 0 rfl) (fun _ h => h.1) (fun hL0_ => ?_)
  refine cj_seq ?_
  refine cj_reg ?_
  refine lp rfl (p_as rfl) ?_
  refine lj_seq ?_
  refine cj_seq ?_
  refine cj_seq ?_
  refine cj_reg ?_
  refine lp rfl (p_mv rfl) ?_
  refine lp rfl (p_lenG hL0_ Tryz.underlying66 rfl (.ro 1 rfl)) ?_
  refine lp rfl (p_gtr rfl rfl) ?_
  refine lj_seq ?_
  refine cj_if (b := decide ((a0.length : Int) > 60)) rfl (fun hb => ?_) (fun hb => ?_)
  · have hm := ifB_t hb hm
    refine cj_seq ?_
    refine cj_reg ?_
    refine lp rfl (p_as rfl) ?_
    refine lj_seq ?_
    obtain rfl := Option.some.inj hm
    exact cj_rt () [] Tryz.results78 (.tmp rfl .nil) rfl rfl
  · have hm := ifB_f hb hm
    refine cj_skip ?_
    refine nj_seq ?_
    refine cj_seq ?_
    refine cj_seq ?_
    refine cj_reg ?_
    refine lp rfl (p_mv rfl) ?_
    refine lp rfl (p_lenG hL0_ Tryz.underlying66 rfl (.ro 1 rfl)) ?_
    refine lp rfl (p_mv rfl) ?_
    refine lj_seq ?_
    obtain ⟨f7, hf7, hm⟩ := bindS hm
    refine cj_range (γ := Unit) (m := (a0.length : Int)) hf7 () (fun u4 g5 => [(0, s0_.v), (2, .int .i64 0), (9, s0_.v)]) (fun u4 g5 => Sat w0 (keys ([] : List Ent)) A [.ro (Lk N65 a0 xg0_), .ro (RdS N65.R (SV.v s0_) xg0_)]) ⟨rfl, rfl, rfl, rfl, rfl, trivial⟩ (fun _ h => h.picks [0, 0] rfl) (nat_lt _) (fun _ h => by have h1 := (FactAt.get (F := RdS N65.R (SV.v s0_) xg0_) (.ro 1 rfl) h).1; rw [lk_len hL0_] at h1; exact h1) (fun _ _ => ⟨rfl, rfl, rfl, rfl⟩) ⟨rfl, rfl, rfl, rfl, rfl⟩ rfl rfl rfl (fun u4 g5 e => ?_) (fun aftk6 i1 x2 u4 g5 k6 hx3 hs J hJk6 hBk6 hX I cnk6 => ?_)
    · have hm := Flow.fin_b e hm
      refine nj_seq ?_
      refine cj_seq ?_
      refine cj_reg ?_
      refine lp rfl (p_as rfl) ?_
      refine lj_seq ?_
      obtain rfl := Option.some.inj hm
      exact cj_rt () [] Tryz.results78 (.tmp rfl .nil) rfl rfl
    · have hRk6 : ∀ t, k6 = .ret t → some t = some r := fun t e => by rw [hX t e] at hm; exact hm
      have hm := hs
      refine cj_seq ?_
      refine cj_reg ?_
      refine lp rfl (p_mv rfl) ?_
      obtain ⟨gx2, hx3G⟩ := lk_get hL0_ hx3
      refine lp rfl (p_idx Tryz.underlying66 ty65 rfl rfl (.ro 1 rfl) (getI_nat.trans hx3G)) ?_
      refine lp rfl (p_leaN (cs := [.string x2.Key, .string x2.Places, .int .i64 x2.Long, gx2.v]) ty65 rfl (.ro 1 rfl) hx3G rfl) ?_
      refine r_al ty65 rfl (fun b8 => ?_)
      refine lp rfl (p_as rfl) ?_
      refine r_sb (vs := [.string x2.Key, .string x2.Places, .int .i64 x2.Long, gx2.v]) (j := 0) ty65 rfl rfl rfl rfl rfl rfl rfl ?_
      refine lj_seq ?_
      refine cj_seq ?_
      refine cj_blk ?_
      refine cj_seq ?_
      refine cj_reg ?_
      obtain ⟨k11, hk11, hm⟩ := bindS hm
      have hRk11 : ∀ t, k11 = .inr t → some t = some k6 := fun t e => by rw [e] at hm; exact hm
      refine lj_join (σ := Bool) (γ := Unit) (fun u9 => k11 = .inl u9) (fun u9 g10 => [(0, s0_.v), (2, .int .i64 0), (3, .int .i64 (i1 : Int)), (4, .pointer (some ⟨b8, 0, none⟩)), (9, s0_.v), (10, .int .i64 (a0.length : Int)), (11, .int .i64 (i1 : Int)), (16, .bool u9)]) (fun u9 g10 => Sat w0 (keys ([] : List Ent)) A [.box b8 65 [.string x2.Key, .string x2.Places, .int .i64 x2.Long, gx2.v], .ro (Lk N65 a0 xg0_), .ro (RdS N65.R (SV.v s0_) xg0_)]) (fun u9 g10 hq => ?_) (fun J cnk11 => ?_)
      · have hm := Sum.fin_l hq hm
        refine cj_if (b := u9) rfl (fun hb => ?_) (fun hb => ?_)
        · have hm := ifB_t hb hm
          refine cj_seq ?_
          refine cj_reg ?_
          refine lp rfl (p_as rfl) ?_
          refine lj_seq ?_
          have hm := hRk6 _ (Option.some.inj hm).symm
          obtain rfl := Option.some.inj hm
          exact cj_rt () [] Tryz.results78 (.tmp rfl .nil) rfl rfl
        · have hm := ifB_f hb hm
          refine cj_seq ?_
          refine cj_reg ?_
          refine lp rfl (p_mv rfl) ?_
          refine lp rfl (p_mv rfl) ?_
          obtain ⟨q14, hq14, hm⟩ := bindS hm
          obtain ⟨q14G, hq14G, hLq14, hsq14⟩ := lk_cut hL0_ hq14
          refine lp rfl (p_cut Tryz.underlying66 ty65 rfl rfl rfl rfl rfl (.ro 2 rfl) rfl rfl hq14G) ?_
          refine lp rfl (p_fn (cv := [.pointer (some ⟨b8, 0, none⟩)]) rfl) ?_
          obtain ⟨y15, hy15, hm⟩ := bindS hm
          refine r_call [] cf107 rfl rfl (ok_slices_ContainsFunc_api_Item_api_Item__concert_CheckItems_1 (s0_.sub N65.R.sz (0 : Int).toNat (i1 : Int).toNat) q14G q14 b8 x2.Key x2.Places x2.Long gx2 x2.Parts hy15) rfl rfl (.cons (.imp (.ro 1 rfl) (fun _ h => Lk.sub h hLq14 hsq14)) (.cons (.imp (.ro 2 rfl) (fun _ h => h.cut hq14G)) (.cons (.imp (.box 0 rfl) (fun _ h => h)) (.cons (.imp (.ro 1 rfl) (fun _ h => (Lk.at_ h hx3G))) .nil)))) (fun _ => rfl) rfl (fun _ => ?_)
          refine lp rfl (p_as rfl) ?_
          refine lj_seq ?_
          refine cj_if (b := y15) rfl (fun hb => ?_) (fun hb => ?_)
          · have hm := ifB_t hb hm
            refine cj_seq ?_
            refine cj_reg ?_
            refine lp rfl (p_as rfl) ?_
            refine lj_seq ?_
            have hm := hRk6 _ (Option.some.inj hm).symm
            obtain rfl := Option.some.inj hm
            exact cj_rt () [] Tryz.results78 (.tmp rfl .nil) rfl rfl
          · have hm := ifB_f hb hm
            refine cj_seq ?_
            refine cj_reg ?_
            refine lp rfl (p_fab fl65_2 rfl) ?_
            refine lp rfl (p_lbs ty3 rfl (j := 0) rfl rfl) ?_
            obtain ⟨y16, hy16, hm⟩ := bindS hm
            refine r_call [] cf22 rfl rfl (ok_kit_Outside x2.Long 1 86400000 hy16) rfl rfl .nil (fun _ => rfl) rfl (fun _ => ?_)
            refine lp rfl (p_as rfl) ?_
            refine lj_seq ?_
            refine cj_if (b := y16) rfl (fun hb => ?_) (fun hb => ?_)
            · have hm := ifB_t hb hm
              refine cj_seq ?_
              refine cj_reg ?_
              refine lp rfl (p_as rfl) ?_
              refine lj_seq ?_
              have hm := hRk6 _ (Option.some.inj hm).symm
              obtain rfl := Option.some.inj hm
              exact cj_rt () [] Tryz.results78 (.tmp rfl .nil) rfl rfl
            · have hm := ifB_f hb hm
              refine cj_skip ?_
              refine nj_blk ?_
              refine nj_seq ?_
              refine cj_seq ?_
              refine cj_reg ?_
              refine lp rfl (p_fab fl65_3 rfl) ?_
              refine lp rfl (p_lbs ty56 rfl (j := 0) rfl rfl) ?_
              obtain ⟨y17, hy17, hm⟩ := bindS hm
              refine r_call [] cf109 rfl rfl (ok_concert_partsFault gx2 x2.Parts hy17) rfl rfl (.cons (.imp (.ro 1 rfl) (fun _ h => (Lk.at_ h hx3G))) .nil) (fun _ => rfl) rfl (fun _ => ?_)
              refine lp rfl (p_as rfl) ?_
              refine lj_seq ?_
              refine cj_seq ?_
              refine cj_reg ?_
              refine lp rfl (p_mv rfl) ?_
              refine lp rfl (p_neq rfl rfl) ?_
              refine lj_seq ?_
              refine cj_if (b := y17 != 0) rfl (fun hb => ?_) (fun hb => ?_)
              · have hm := ifB_t hb hm
                refine cj_seq ?_
                refine cj_reg ?_
                refine lp rfl (p_mv rfl) ?_
                refine lp rfl (p_as rfl) ?_
                refine lj_seq ?_
                have hm := hRk6 _ (Option.some.inj hm).symm
                obtain rfl := Option.some.inj hm
                exact cj_rt () [] Tryz.results78 (.tmp rfl .nil) rfl rfl
              · have hm := ifB_f hb hm
                refine cj_skip ?_
                refine nj_blk ?_
                exact cnk6 _ _ () () (hJk6 _ (Option.some.inj hm).symm) ⟨rfl, rfl, rfl, rfl, rfl, trivial⟩ (fun _ h => h.picks [1, 1] rfl)
      · have hm := hk11
        refine lp rfl (p_fab fl65_0 rfl) ?_
        refine lp rfl (p_lbs ty9 rfl (j := 0) rfl rfl) ?_
        obtain ⟨y12, hy12, hm⟩ := bindS hm
        refine r_call [] cf71 rfl rfl (ok_kit_IsKey x2.Key hy12) rfl rfl .nil (fun _ => rfl) rfl (fun _ => ?_)
        refine lp rfl (p_not rfl) ?_
        refine lp rfl (p_mv rfl) ?_
        refine lcase (i := 21) (!y12) rfl (fun hb => ?_) (fun hb => ?_)
        · have hm := ifB_t hb hm
          refine ls false rfl rfl rfl rfl ?_
          refine ls false rfl rfl rfl rfl ?_
          refine ls false rfl rfl rfl rfl ?_
          refine ls false rfl rfl rfl rfl ?_
          refine lp rfl (p_pkt rfl rfl) ?_
          refine lp rfl (p_as rfl) ?_
          refine lj_nil ?_
          exact cnk11 _ _ true () (Option.some.inj hm).symm ⟨rfl, rfl, rfl, rfl, rfl, rfl, rfl, rfl, trivial⟩ (fun _ h => h.picks [0, 0, 0] rfl)
        · have hm := ifB_f hb hm
          refine lg false rfl rfl rfl ?_
          refine lp rfl (p_fab fl65_1 rfl) ?_
          refine lg false rfl rfl rfl ?_
          refine lp rfl (p_lbs ty9 rfl (j := 0) rfl rfl) ?_
          refine lg false rfl rfl rfl ?_
          obtain ⟨y13, hy13, hm⟩ := bindS hm
          refine r_call [] cf71 rfl rfl (ok_kit_IsKey x2.Places hy13) rfl rfl .nil (fun _ => rfl) rfl (fun _ => ?_)
          refine lg false rfl rfl rfl ?_
          refine lp rfl (p_not rfl) ?_
          refine lp rfl (p_pkf rfl rfl) ?_
          refine lp rfl (p_as rfl) ?_
          refine lj_nil ?_
          exact cnk11 _ _ (!y13) () (Option.some.inj hm).symm ⟨rfl, rfl, rfl, rfl, rfl, rfl, rfl, rfl, trivial⟩ (fun _ h => h.picks [0, 0, 0] rfl)
theorem ok_concert_CheckProgram (a0 : TProgram) (s0_0_ : SV) (xg0_0_ : List (TItem × SV)) {r : Int} (hm : m_concert_CheckProgram a0 = some r) :
    Ctr Tryz.prog 54 [.agg [s0_0_.v, .int .i64 a0.Change, .int .i64 a0.Clap, .int .i64 a0.Break, .int .i64 a0.Half].toArray].toArray ([] : List Ent) [Lk N65 a0.Items xg0_0_, RdS N65.R (SV.v s0_0_) xg0_0_] (X := Unit) (fun _ => .int .i64 r) (fun _ => []) := by
  unfold m_concert_CheckProgram at hm
  refine ctr_mk (vs := [(0, .agg [s0_0_.v, .int .i64 a0.Change, .int .i64 a0.Clap, .int .i64 a0.Break, .int .i64 a0.Half].toArray)]) Tryz.func54 rfl Tryz.ntmps54 rfl ⟨rfl, trivial⟩ (fun w0 A => ?_)
  refine cj_pure (F := Lk N65 a0.Items xg0_0_) (.ro 0 rfl) (fun _ h => h.1) (fun hL0_0_ => ?_)
  refine cj_seq ?_
  refine cj_reg ?_
  refine r_bx (cs := [s0_0_.v, .int .i64 a0.Change, .int .i64 a0.Clap, .int .i64 a0.Break, .int .i64 a0.Half]) rfl rfl rfl (fun b1 => ?_)
  refine lp rfl (p_as rfl) ?_
  refine lj_seq ?_
  refine cj_seq ?_
  refine cj_seq ?_
  refine cj_reg ?_
  refine lp rfl (p_fab fl68_0 rfl) ?_
  refine lp rfl (p_lbs ty66 rfl (j := 0) rfl rfl) ?_
  obtain ⟨y2, hy2, hm⟩ := bindS hm
  refine r_call [] cf78 rfl rfl (ok_concert_CheckItems s0_0_ xg0_0_ a0.Items hy2) rfl rfl (.cons (.ro 1 rfl) (.cons (.ro 2 rfl) .nil)) (fun _ => rfl) rfl (fun _ => ?_)
  refine lp rfl (p_as rfl) ?_
  refine lj_seq ?_
  refine cj_seq ?_
  refine cj_reg ?_
  refine lp rfl (p_mv rfl) ?_
  refine lp rfl (p_neq rfl rfl) ?_
  refine lj_seq ?_
  refine cj_if (b := y2 != 0) rfl (fun hb => ?_) (fun hb => ?_)
  · have hm := ifB_t hb hm
    refine cj_seq ?_
    refine cj_reg ?_
    refine lp rfl (p_mv rfl) ?_
    refine lp rfl (p_as rfl) ?_
    refine lj_seq ?_
    obtain rfl := Option.some.inj hm
    exact cj_rt () [] Tryz.results54 (.tmp rfl .nil) rfl rfl
  · have hm := ifB_f hb hm
    refine cj_skip ?_
    refine nj_seq ?_
    refine cj_seq ?_
    refine cj_seq ?_
    refine cj_reg ?_
    obtain ⟨k5, hk5, hm⟩ := bindS hm
    have hRk5 : ∀ t, k5 = .inr t → some t = some r := fun t e => by rw [e] at hm; exact hm
    refine lj_join (σ := Bool) (γ := Unit) (fun u3 => k5 = .inl u3) (fun u3 g4 => [(2, .int .i64 0), (32, .bool u3)]) (fun u3 g4 => Sat w0 (keys ([] : List Ent)) A []) (fun u3 g4 hq => ?_) (fun J cnk5 => ?_)
    · have hm := Sum.fin_l hq hm
      refine cj_if (b := u3) rfl (fun hb => ?_) (fun hb => ?_)
      · have hm := ifB_t hb hm
        refine cj_seq ?_
        refine cj_reg ?_
        refine lp rfl (p_as rfl) ?_
        refine lj_seq ?_
        obtain rfl := Option.some.inj hm
        exact cj_rt () [] Tryz.results54 (.tmp rfl .nil) rfl rfl
      · have hm := ifB_f hb hm
        refine cj_skip ?_
        refine nj_seq ?_
        refine cj_seq ?_
        refine cj_reg ?_
        refine lp rfl (p_as rfl) ?_
        refine lj_seq ?_
        obtain rfl := Option.some.inj hm
        exact cj_rt () [] Tryz.results54 (.tmp rfl .nil) rfl rfl
    · have hm := hk5
      refine lp rfl (p_fab fl68_1 rfl) ?_
      refine lp rfl (p_lbs ty3 rfl (j := 0) rfl rfl) ?_
      obtain ⟨y6, hy6, hm⟩ := bindS hm
      refine r_call [] cf22 rfl rfl (ok_kit_Outside a0.Change 0 86400000 hy6) rfl rfl .nil (fun _ => rfl) rfl (fun _ => ?_)
      refine lp rfl (p_mv rfl) ?_
      refine lcase (i := 13) y6 rfl (fun hb => ?_) (fun hb => ?_)
      · have hm := ifB_t hb hm
        refine ls false rfl rfl rfl rfl ?_
        refine ls false rfl rfl rfl rfl ?_
        refine ls false rfl rfl rfl rfl ?_
        refine lp rfl (p_pkt rfl rfl) ?_
        refine lp rfl (p_mv rfl) ?_
        refine ls false rfl rfl rfl rfl ?_
        refine ls false rfl rfl rfl rfl ?_
        refine ls false rfl rfl rfl rfl ?_
        refine lp rfl (p_pkt rfl rfl) ?_
        refine lp rfl (p_mv rfl) ?_
        refine ls false rfl rfl rfl rfl ?_
        refine ls false rfl rfl rfl rfl ?_
        refine ls false rfl rfl rfl rfl ?_
        refine ls false rfl rfl rfl rfl ?_
        refine ls false rfl rfl rfl rfl ?_
        refine ls false rfl rfl rfl rfl ?_
        refine ls false rfl rfl rfl rfl ?_
        refine ls false rfl rfl rfl rfl ?_
        refine lp rfl (p_pkt rfl rfl) ?_
        refine lj_nil ?_
        exact cnk5 _ _ true () (Option.some.inj hm).symm ⟨rfl, rfl, trivial⟩ (fun _ h => h.picks [] rfl)
      · have hm := ifB_f hb hm
        refine lg false rfl rfl rfl ?_
        refine lp rfl (p_fab fl68_2 rfl) ?_
        refine lg false rfl rfl rfl ?_
        refine lp rfl (p_lbs ty3 rfl (j := 0) rfl rfl) ?_
        refine lg false rfl rfl rfl ?_
        obtain ⟨y7, hy7, hm⟩ := bindS hm
        refine r_call [] cf22 rfl rfl (ok_kit_Outside a0.Clap 0 86400000 hy7) rfl rfl .nil (fun _ => rfl) rfl (fun _ => ?_)
        refine lp rfl (p_pkf rfl rfl) ?_
        refine lp rfl (p_mv rfl) ?_
        refine lcase (i := 18) y7 rfl (fun hb => ?_) (fun hb => ?_)
        · have hm := ifB_t hb hm
          refine ls false rfl rfl rfl rfl ?_
          refine ls false rfl rfl rfl rfl ?_
          refine ls false rfl rfl rfl rfl ?_
          refine lp rfl (p_pkt rfl rfl) ?_
          refine lp rfl (p_mv rfl) ?_
          refine ls false rfl rfl rfl rfl ?_
          refine ls false rfl rfl rfl rfl ?_
          refine ls false rfl rfl rfl rfl ?_
          refine ls false rfl rfl rfl rfl ?_
          refine ls false rfl rfl rfl rfl ?_
          refine ls false rfl rfl rfl rfl ?_
          refine ls false rfl rfl rfl rfl ?_
          refine ls false rfl rfl rfl rfl ?_
          refine lp rfl (p_pkt rfl rfl) ?_
          refine lj_nil ?_
          exact cnk5 _ _ true () (Option.some.inj hm).symm ⟨rfl, rfl, trivial⟩ (fun _ h => h.picks [] rfl)
        · have hm := ifB_f hb hm
          refine lg false rfl rfl rfl ?_
          refine lp rfl (p_fab fl68_3 rfl) ?_
          refine lg false rfl rfl rfl ?_
          refine lp rfl (p_lbs ty3 rfl (j := 0) rfl rfl) ?_
          refine lg false rfl rfl rfl ?_
          obtain ⟨y8, hy8, hm⟩ := bindS hm
          refine r_call [] cf22 rfl rfl (ok_kit_Outside a0.Break 0 86400000 hy8) rfl rfl .nil (fun _ => rfl) rfl (fun _ => ?_)
          refine lp rfl (p_pkf rfl rfl) ?_
          refine lp rfl (p_mv rfl) ?_
          refine lcase (i := 23) y8 rfl (fun hb => ?_) (fun hb => ?_)
          · have hm := ifB_t hb hm
            refine ls false rfl rfl rfl rfl ?_
            refine ls false rfl rfl rfl rfl ?_
            refine ls false rfl rfl rfl rfl ?_
            refine ls false rfl rfl rfl rfl ?_
            refine ls false rfl rfl rfl rfl ?_
            refine ls false rfl rfl rfl rfl ?_
            refine ls false rfl rfl rfl rfl ?_
            refine ls false rfl rfl rfl rfl ?_
            refine lp rfl (p_pkt rfl rfl) ?_
            refine lj_nil ?_
            exact cnk5 _ _ true () (Option.some.inj hm).symm ⟨rfl, rfl, trivial⟩ (fun _ h => h.picks [] rfl)
          · have hm := ifB_f hb hm
            refine lg false rfl rfl rfl ?_
            refine lp rfl (p_fab fl68_4 rfl) ?_
            refine lg false rfl rfl rfl ?_
            refine lp rfl (p_lbs ty3 rfl (j := 0) rfl rfl) ?_
            refine lg false rfl rfl rfl ?_
            refine lp rfl (p_fab fl68_0 rfl) ?_
            refine lg false rfl rfl rfl ?_
            refine lp rfl (p_lbs ty66 rfl (j := 0) rfl rfl) ?_
            refine lg false rfl rfl rfl ?_
            refine lp rfl (p_lenG hL0_0_ Tryz.underlying66 rfl (.ro 2 rfl)) ?_
            refine lg false rfl rfl rfl ?_
            refine lp rfl (p_sub rfl rfl) ?_
            refine lg false rfl rfl rfl ?_
            refine lp rfl (p_max rfl rfl) ?_
            refine lg false rfl rfl rfl ?_
            obtain ⟨y9, hy9, hm⟩ := bindS hm
            refine r_call [] cf22 rfl rfl (ok_kit_Outside a0.Half (-1) (max (-1) (w64 ((a0.Items.length : Int) - 2))) hy9) rfl rfl .nil (fun _ => rfl) rfl (fun _ => ?_)
            refine lp rfl (p_pkf rfl rfl) ?_
            refine lj_nil ?_
            exact cnk5 _ _ y9 () (Option.some.inj hm).symm ⟨rfl, rfl, trivial⟩ (fun _ h => h.picks [] rfl)
theorem ok_concert_change (a0 : TProgram) (s0_0_ : SV) (xg0_0_ : List (TItem × SV)) (a1 : TItem) (s1_3_ : SV) (a2 : TItem) (s2_3_ : SV) {r : Int} (hm : m_concert_change a0 a1 a2 = some r) :
    Ctr Tryz.prog 110 [.agg [s0_0_.v, .int .i64 a0.Change, .int .i64 a0.Clap, .int .i64 a0.Break, .int .i64 a0.Half].toArray, .agg [.string a1.Key, .string a1.Places, .int .i64 a1.Long, s1_3_.v].toArray, .agg [.string a2.Key, .string a2.Places, .int .i64 a2.Long, s2_3_.v].toArray].toArray ([] : List Ent) [Lk N65 a0.Items xg0_0_, RdS N65.R (SV.v s0_0_) xg0_0_, RdS R9 (SV.v s1_3_) a1.Parts, RdS R9 (SV.v s2_3_) a2.Parts] (X := Unit) (fun _ => .int .i64 r) (fun _ => []) := by
  unfold m_concert_change at hm
  refine ctr_mk (vs := [(0, .agg [s0_0_.v, .int .i64 a0.Change, .int .i64 a0.Clap, .int .i64 a0.Break, .int .i64 a0.Half].toArray), (1, .agg [.string a1.Key, .string a1.Places, .int .i64 a1.Long, s1_3_.v].toArray), (2, .agg [.string a2.Key, .string a2.Places, .int .i64 a2.Long, s2_3_.v].toArray)]) Tryz.func110 rfl Tryz.ntmps110 rfl ⟨rfl, rfl, rfl, trivial⟩ (fun w0 A => ?_)
  refine cj_pure (F := Lk N65 a0.Items xg0_0_) (.ro 0 rfl) (fun _ h => h.1) (fun hL0_0_ => ?_)
  refine cj_seq ?_
  refine cj_reg ?_
  refine r_bx (cs := [s0_0_.v, .int .i64 a0.Change, .int .i64 a0.Clap, .int .i64 a0.Break, .int .i64 a0.Half]) rfl rfl rfl (fun b1 => ?_)
  refine r_bx (cs := [.string a1.Key, .string a1.Places, .int .i64 a1.Long, s1_3_.v]) rfl rfl rfl (fun b2 => ?_)
  refine r_bx (cs := [.string a2.Key, .string a2.Places, .int .i64 a2.Long, s2_3_.v]) rfl rfl rfl (fun b3 => ?_)
  refine lp rfl (p_as rfl) ?_
  refine lj_seq ?_
  refine cj_seq ?_
  refine cj_seq ?_
  refine cj_reg ?_
  refine lp rfl (p_fab fl65_1 rfl) ?_
  refine lp rfl (p_lbs ty9 rfl (j := 1) rfl rfl) ?_
  refine lp rfl (p_fab fl65_1 rfl) ?_
  refine lp rfl (p_lbs ty9 rfl (j := 0) rfl rfl) ?_
  refine lp rfl (p_nes rfl rfl) ?_
  refine lj_seq ?_
  refine cj_if (b := !(a1.Places.toList == a2.Places.toList)) rfl (fun hb => ?_) (fun hb => ?_)
  · have hm := ifB_t hb hm
    refine cj_seq ?_
    refine cj_reg ?_
    refine lp rfl (p_fab fl68_1 rfl) ?_
    refine lp rfl (p_lbs ty3 rfl (j := 2) rfl rfl) ?_
    refine lp rfl (p_as rfl) ?_
    refine lj_seq ?_
    obtain rfl := Option.some.inj hm
    exact cj_rt () [] Tryz.results110 (.tmp rfl .nil) rfl rfl
  · have hm := ifB_f hb hm
    refine cj_skip ?_
    refine nj_seq ?_
    refine cj_seq ?_
    refine cj_reg ?_
    refine lp rfl (p_fab fl68_2 rfl) ?_
    refine lp rfl (p_lbs ty3 rfl (j := 2) rfl rfl) ?_
    refine lp rfl (p_as rfl) ?_
    refine lj_seq ?_
    obtain rfl := Option.some.inj hm
    exact cj_rt () [] Tryz.results110 (.tmp rfl .nil) rfl rfl
theorem ok_concert_behind (a0 : TProgram) (s0_0_ : SV) (xg0_0_ : List (TItem × SV)) (a1 : Int) {r : Int} (hm : m_concert_behind a0 a1 = some r) :
    Ctr Tryz.prog 79 [.agg [s0_0_.v, .int .i64 a0.Change, .int .i64 a0.Clap, .int .i64 a0.Break, .int .i64 a0.Half].toArray, .int .i64 a1].toArray ([] : List Ent) [Lk N65 a0.Items xg0_0_, RdS N65.R (SV.v s0_0_) xg0_0_] (X := Unit) (fun _ => .int .i64 r) (fun _ => []) := by
  unfold m_concert_behind at hm
  refine ctr_mk (vs := [(0, .agg [s0_0_.v, .int .i64 a0.Change, .int .i64 a0.Clap, .int .i64 a0.Break, .int .i64 a0.Half].toArray), (1, .int .i64 a1)]) Tryz.func79 rfl Tryz.ntmps79 rfl ⟨rfl, rfl, trivial⟩ (fun w0 A => ?_)
  refine cj_pure (F := Lk N65 a0.Items xg0_0_) (.ro 0 rfl) (fun _ h => h.1) (fun hL0_0_ => ?_)
  refine cj_seq ?_
  refine cj_reg ?_
  refine r_bx (cs := [s0_0_.v, .int .i64 a0.Change, .int .i64 a0.Clap, .int .i64 a0.Break, .int .i64 a0.Half]) rfl rfl rfl (fun b1 => ?_)
  refine lp rfl (p_as rfl) ?_
  refine lj_seq ?_
  refine cj_seq ?_
  refine cj_seq ?_
  refine cj_reg ?_
  refine lp rfl (p_mv rfl) ?_
  refine lp rfl (p_fab fl68_4 rfl) ?_
  refine lp rfl (p_lbs ty3 rfl (j := 0) rfl rfl) ?_
  refine lp rfl (p_eql rfl rfl) ?_
  refine lj_seq ?_
  refine cj_if (b := a1 == a0.Half) rfl (fun hb => ?_) (fun hb => ?_)
  · have hm := ifB_t hb hm
    refine cj_seq ?_
    refine cj_reg ?_
    refine lp rfl (p_fab fl68_3 rfl) ?_
    refine lp rfl (p_lbs ty3 rfl (j := 0) rfl rfl) ?_
    refine lp rfl (p_as rfl) ?_
    refine lj_seq ?_
    obtain rfl := Option.some.inj hm
    exact cj_rt () [] Tryz.results79 (.tmp rfl .nil) rfl rfl
  · have hm := ifB_f hb hm
    refine cj_skip ?_
    refine nj_seq ?_
    refine cj_seq ?_
    refine cj_quiet (by kernel_rfl) (by kernel_rfl) ?_
    refine q_p rfl (p_lbw ty68 rfl (j := 0) rfl rfl) ?_
    refine q_p rfl (p_fab fl68_0 rfl) ?_
    refine q_p rfl (p_lbs ty66 rfl (j := 0) rfl rfl) ?_
    refine q_p rfl (p_mv rfl) ?_
    obtain ⟨e2, he2, hm⟩ := bindS hm
    obtain ⟨ge2, he2G⟩ := lk_getI hL0_0_ he2
    refine q_p rfl (p_idx Tryz.underlying66 ty65 rfl rfl (.ro 2 rfl) he2G) ?_
    refine q_p rfl (p_leaN (cs := [.string e2.Key, .string e2.Places, .int .i64 e2.Long, ge2.v]) ty65 rfl (.ro 2 rfl) (getI_spec he2G).2 rfl) ?_
    refine q_p rfl (p_fab fl68_0 rfl) ?_
    refine q_p rfl (p_lbs ty66 rfl (j := 0) rfl rfl) ?_
    refine q_p rfl (p_mv rfl) ?_
    refine q_p rfl (p_add rfl rfl) ?_
    obtain ⟨e3, he3, hm⟩ := bindS hm
    obtain ⟨ge3, he3G⟩ := lk_getI hL0_0_ he3
    refine q_p rfl (p_idx Tryz.underlying66 ty65 rfl rfl (.ro 2 rfl) he3G) ?_
    refine q_p rfl (p_leaN (cs := [.string e3.Key, .string e3.Places, .int .i64 e3.Long, ge3.v]) ty65 rfl (.ro 2 rfl) (getI_spec he3G).2 rfl) ?_
    obtain ⟨y4, hy4, hm⟩ := bindS hm
    refine q_call (.int .i64 y4) cf110 rfl rfl (ok_concert_change a0 s0_0_ xg0_0_ e2 ge2 e3 ge3 hy4) (.cons (.ro 1 rfl) (.cons (.ro 2 rfl) (.cons (.imp (.ro 1 rfl) (fun _ h => (Lk.at_ h (getI_spec he2G).2))) (.cons (.imp (.ro 1 rfl) (fun _ h => (Lk.at_ h (getI_spec he3G).2))) .nil)))) (fun _ => rfl) (fun _ => rfl) rfl ?_
    refine q_p rfl (p_as rfl) ?_
    refine q_nil ?_
    refine nj_seq ?_
    obtain rfl := Option.some.inj hm
    exact cj_rt () [] Tryz.results79 (.tmp rfl .nil) rfl rfl
theorem ok_concert_begins (a0 : TProgram) (s0_0_ : SV) (xg0_0_ : List (TItem × SV)) {r : (List Int) × Int} (hm : m_concert_begins a0 = some r) :
    Ctr Tryz.prog 55 [.agg [s0_0_.v, .int .i64 a0.Change, .int .i64 a0.Clap, .int .i64 a0.Break, .int .i64 a0.Half].toArray].toArray ([] : List Ent) [Lk N65 a0.Items xg0_0_, RdS N65.R (SV.v s0_0_) xg0_0_] (X := SV) (fun s => .tuple [s.v, .int .i64 r.2].toArray) (fun s => [.row R3 (SV.v s) r.1]) := by
  unfold m_concert_begins at hm
  refine ctr_mk (vs := [(0, .agg [s0_0_.v, .int .i64 a0.Change, .int .i64 a0.Clap, .int .i64 a0.Break, .int .i64 a0.Half].toArray)]) Tryz.func55 rfl Tryz.ntmps55 rfl ⟨rfl, trivial⟩ (fun w0 A => ?_)
  refine cj_pure (F := Lk N65 a0.Items xg0_0_) (.ro 0 rfl) (fun _ h => h.1) (fun hL0_0_ => ?_)
  refine cj_seq ?_
  refine cj_reg ?_
  refine r_bx (cs := [s0_0_.v, .int .i64 a0.Change, .int .i64 a0.Clap, .int .i64 a0.Break, .int .i64 a0.Half]) rfl rfl rfl (fun b1 => ?_)
  refine lp rfl (p_as rfl) ?_
  refine lp rfl (p_as rfl) ?_
  refine lj_seq ?_
  refine cj_seq ?_
  refine cj_reg ?_
  refine lp rfl (p_as rfl) ?_
  refine lj_seq ?_
  refine cj_seq ?_
  refine cj_reg ?_
  refine lp rfl (p_as rfl) ?_
  refine lj_seq ?_
  refine cj_seq ?_
  refine cj_seq ?_
  refine cj_reg ?_
  refine lp rfl (p_fab fl68_0 rfl) ?_
  refine lp rfl (p_lbs ty66 rfl (j := 0) rfl rfl) ?_
  refine lp rfl (p_lenG hL0_0_ Tryz.underlying66 rfl (.ro 2 rfl)) ?_
  refine lp rfl (p_mv rfl) ?_
  refine lj_seq ?_
  refine cj_nil R3 ?_
  obtain ⟨f9, hf9, hm⟩ := bindS hm
  refine cj_range (γ := SV) (m := (a0.Items.length : Int)) hf9 nilS (fun u6 g7 => [(1, .pointer (some ⟨b1, 0, none⟩)), (2, .slice none 0 0), (3, .int .i64 0), (4, g7.v), (5, .int .i64 u6.1), (9, s0_0_.v)]) (fun u6 g7 => Sat w0 (keys ([] : List Ent)) A [.box b1 68 [s0_0_.v, .int .i64 a0.Change, .int .i64 a0.Clap, .int .i64 a0.Break, .int .i64 a0.Half], .ro (Lk N65 a0.Items xg0_0_), .ro (RdS N65.R (SV.v s0_0_) xg0_0_), .row R3 (SV.v g7) u6.2]) ⟨rfl, rfl, rfl, rfl, rfl, rfl, rfl, rfl, trivial⟩ (fun _ h => h.picks [1, 1, 1, 0] rfl) (nat_lt _) (fun _ h => by have h1 := (FactAt.get (F := RdS N65.R (SV.v s0_0_) xg0_0_) (.ro 3 rfl) h).1; rw [lk_len hL0_0_] at h1; exact h1) (fun _ _ => ⟨rfl, rfl, rfl, rfl⟩) ⟨rfl, rfl, rfl, rfl, rfl⟩ rfl rfl rfl (fun u6 g7 e => ?_) (fun aftk8 i2 x3 u6 g7 k8 hx4 hs J hJk8 hBk8 hX I cnk8 => ?_)
  · have hm := Flow.fin_b e hm
    refine nj_seq ?_
    refine cj_seq ?_
    refine cj_reg ?_
    refine lp rfl (p_mv rfl) ?_
    refine lp rfl (p_mv rfl) ?_
    refine lp rfl (p_as rfl) ?_
    refine lp rfl (p_as rfl) ?_
    refine lj_seq ?_
    obtain rfl := Option.some.inj hm
    exact cj_rt g7 [3] Tryz.results55 (.tmp rfl (.tmp rfl .nil)) rfl rfl
  · have hRk8 : ∀ t, k8 = .ret t → some t = some r := fun t e => by rw [hX t e] at hm; exact hm
    have hm := hs
    refine cj_seq ?_
    refine cj_reg ?_
    refine lp rfl (p_mv rfl) ?_
    obtain ⟨gx3, hx4G⟩ := lk_get hL0_0_ hx4
    refine lp rfl (p_idx Tryz.underlying66 ty65 rfl rfl (.ro 2 rfl) (getI_nat.trans hx4G)) ?_
    refine lp rfl (p_leaN (cs := [.string x3.Key, .string x3.Places, .int .i64 x3.Long, gx3.v]) ty65 rfl (.ro 2 rfl) hx4G rfl) ?_
    refine r_al ty65 rfl (fun b11 => ?_)
    refine lp rfl (p_as rfl) ?_
    refine r_sb (vs := [.string x3.Key, .string x3.Places, .int .i64 x3.Long, gx3.v]) (j := 0) ty65 rfl rfl rfl rfl rfl rfl rfl ?_
    refine lj_seq ?_
    refine cj_seq ?_
    refine cj_reg ?_
    refine lp rfl (p_mv rfl) ?_
    refine lp rfl (p_mv rfl) ?_
    refine r_bs R3 [u6.1] rfl rfl rfl (fun _ => by kernel_rfl) rfl (fun s12 => ?_)
    obtain ⟨q13, hq13, hm⟩ := bindS hm
    refine r_app (k := 5) Tryz.underlying22 ty3 rfl rfl rfl rfl (.row 0 rfl) hq13 rfl (fun s14 => ?_)
    refine lp rfl (p_as rfl) ?_
    refine lj_seq ?_
    refine cj_seq ?_
    refine cj_reg ?_
    refine lp rfl (p_mv rfl) ?_
    refine lp rfl (p_fab fl65_2 rfl) ?_
    refine lp rfl (p_lbs ty3 rfl (j := 1) rfl rfl) ?_
    refine lp rfl (p_add rfl rfl) ?_
    refine lp rfl (p_as rfl) ?_
    refine lj_seq ?_
    refine cj_seq ?_
    refine cj_reg ?_
    refine lp rfl (p_mv rfl) ?_
    refine lp rfl (p_add rfl rfl) ?_
    refine lp rfl (p_fab fl68_0 rfl) ?_
    refine lp rfl (p_lbs ty66 rfl (j := 2) rfl rfl) ?_
    refine lp rfl (p_lenG hL0_0_ Tryz.underlying66 rfl (.ro 4 rfl)) ?_
    refine lp rfl (p_lss rfl rfl) ?_
    refine lj_seq ?_
    refine cj_if (b := decide ((w64 ((i2 : Int) + 1)) < (a0.Items.length : Int))) rfl (fun hb => ?_) (fun hb => ?_)
    · have hm := ifB_t hb hm
      refine cj_reg ?_
      refine lp rfl (p_mv rfl) ?_
      refine lp rfl (p_lbw ty68 rfl (j := 2) rfl rfl) ?_
      refine lp rfl (p_mv rfl) ?_
      obtain ⟨y15, hy15, hm⟩ := bindS hm
      refine r_call [] cf79 rfl rfl (ok_concert_behind a0 s0_0_ xg0_0_ (i2 : Int) hy15) rfl rfl (.cons (.ro 3 rfl) (.cons (.ro 4 rfl) .nil)) (fun _ => rfl) rfl (fun _ => ?_)
      refine lp rfl (p_add rfl rfl) ?_
      refine lp rfl (p_as rfl) ?_
      refine lj_nil ?_
      refine nj_blk ?_
      exact cnk8 _ _ (w64 ((w64 (u6.1 + x3.Long)) + y15), q13) s14 (hJk8 _ (Option.some.inj hm).symm) ⟨rfl, rfl, rfl, rfl, rfl, rfl, rfl, rfl, trivial⟩ (fun _ h => h.picks [2, 2, 2, 2] rfl)
    · have hm := ifB_f hb hm
      refine cj_skip ?_
      refine nj_blk ?_
      exact cnk8 _ _ (w64 (u6.1 + x3.Long), q13) s14 (hJk8 _ (Option.some.inj hm).symm) ⟨rfl, rfl, rfl, rfl, rfl, rfl, rfl, rfl, trivial⟩ (fun _ h => h.picks [2, 2, 2, 2] rfl)
theorem ok_concert_Long (a0 : TProgram) (s0_0_ : SV) (xg0_0_ : List (TItem × SV)) {r : Int × Int} (hm : m_concert_Long a0 = some r) :
    Ctr Tryz.prog 27 [.agg [s0_0_.v, .int .i64 a0.Change, .int .i64 a0.Clap, .int .i64 a0.Break, .int .i64 a0.Half].toArray].toArray ([] : List Ent) [Lk N65 a0.Items xg0_0_, RdS N65.R (SV.v s0_0_) xg0_0_] (X := Unit) (fun _ => .tuple [.int .i64 r.1, .int .i64 r.2].toArray) (fun _ => []) := by
  unfold m_concert_Long at hm
  refine ctr_mk (vs := [(0, .agg [s0_0_.v, .int .i64 a0.Change, .int .i64 a0.Clap, .int .i64 a0.Break, .int .i64 a0.Half].toArray)]) Tryz.func27 rfl Tryz.ntmps27 rfl ⟨rfl, trivial⟩ (fun w0 A => ?_)
  refine cj_pure (F := Lk N65 a0.Items xg0_0_) (.ro 0 rfl) (fun _ h => h.1) (fun hL0_0_ => ?_)
  refine cj_seq ?_
  refine cj_reg ?_
  refine r_bx (cs := [s0_0_.v, .int .i64 a0.Change, .int .i64 a0.Clap, .int .i64 a0.Break, .int .i64 a0.Half]) rfl rfl rfl (fun b1 => ?_)
  refine lp rfl (p_as rfl) ?_
  refine lp rfl (p_as rfl) ?_
  refine lj_seq ?_
  refine cj_seq ?_
  refine cj_seq ?_
  refine cj_reg ?_
  refine lp rfl (p_lbw ty68 rfl (j := 0) rfl rfl) ?_
  obtain ⟨y2, hy2, hm⟩ := bindS hm
  refine r_call [] cf54 rfl rfl (ok_concert_CheckProgram a0 s0_0_ xg0_0_ hy2) rfl rfl (.cons (.ro 1 rfl) (.cons (.ro 2 rfl) .nil)) (fun _ => rfl) rfl (fun _ => ?_)
  refine lp rfl (p_as rfl) ?_
  refine lj_seq ?_
  refine cj_seq ?_
  refine cj_reg ?_
  refine lp rfl (p_mv rfl) ?_
  refine lp rfl (p_neq rfl rfl) ?_
  refine lj_seq ?_
  refine cj_if (b := y2 != 0) rfl (fun hb => ?_) (fun hb => ?_)
  · have hm := ifB_t hb hm
    refine cj_seq ?_
    refine cj_reg ?_
    refine lp rfl (p_mv rfl) ?_
    refine lp rfl (p_as rfl) ?_
    refine lp rfl (p_as rfl) ?_
    refine lj_seq ?_
    obtain rfl := Option.some.inj hm
    exact cj_rt () [] Tryz.results27 (.tmp rfl (.tmp rfl .nil)) rfl rfl
  · have hm := ifB_f hb hm
    refine cj_skip ?_
    refine nj_seq ?_
    refine cj_seq ?_
    refine cj_reg ?_
    refine lp rfl (p_lbw ty68 rfl (j := 0) rfl rfl) ?_
    obtain ⟨y3, hy3, hm⟩ := bindS hm
    refine r_call [] cf55 rfl rfl (ok_concert_begins a0 s0_0_ xg0_0_ hy3) rfl rfl (.cons (.ro 1 rfl) (.cons (.ro 2 rfl) .nil)) (fun _ => rfl) rfl (fun s4 => ?_)
    refine lp rfl (p_mv rfl) ?_
    refine lp rfl (p_ext rfl rfl) ?_
    refine lp rfl (p_ext rfl rfl) ?_
    refine lp rfl (p_as rfl) ?_
    refine lp rfl (p_as rfl) ?_
    refine lj_seq ?_
    refine cj_seq ?_
    refine cj_reg ?_
    refine lp rfl (p_mv rfl) ?_
    refine lp rfl (p_as rfl) ?_
    refine lp rfl (p_as rfl) ?_
    refine lj_seq ?_
    obtain rfl := Option.some.inj hm
    exact cj_rt () [] Tryz.results27 (.tmp rfl (.tmp rfl .nil)) rfl rfl
end Go.Proofs.YtdeoejkgmeemaahGreatDoor
