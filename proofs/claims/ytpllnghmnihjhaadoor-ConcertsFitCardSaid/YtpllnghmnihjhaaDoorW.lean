/- The walks. Written by program. -/
import Derived.Test.YtpllnghmnihjhaaDoorD
import Derived.Test.YtpllnghmnihjhaaDoorX
namespace Go.Proofs.YtpllnghmnihjhaaDoor
open Go Go.J Go.G
set_option maxRecDepth 100000
set_option linter.unusedVariables false
theorem ok_gleemake_Below (a0 : Int) (a1 : Int) {r : Int} (hm : m_gleemake_Below a0 a1 = some r) :
    Ctr Tryd.prog 83 [.int .i64 a0, .int .i64 a1].toArray ([] : List Ent) [] (X := Unit) (fun _ => .int .i64 r) (fun _ => []) := by
  unfold m_gleemake_Below at hm
  refine ctr_mk (vs := [(0, .int .i64 a0), (1, .int .i64 a1)]) Tryd.func83 rfl Tryd.ntmps83 rfl ⟨rfl, rfl, trivial⟩ (fun w0 A => ?_)
  refine cj_seq ?_
  refine cj_reg ?_
  refine lp rfl (p_as rfl) ?_
  refine lj_seq ?_
  refine cj_seq ?_
  refine cj_seq ?_
  refine cj_reg ?_
  refine lp rfl (p_mv rfl) ?_
  refine lp rfl (p_lss rfl rfl) ?_
  refine lj_seq ?_
  refine cj_if (b := decide (a1 < 1)) rfl (fun hb => ?_) (fun hb => ?_)
  · have hm := ifB_t hb hm
    refine cj_seq ?_
    refine cj_reg ?_
    refine lp rfl (p_as rfl) ?_
    refine lj_seq ?_
    obtain rfl := Option.some.inj hm
    exact cj_rt () [] Tryd.results83 (.tmp rfl .nil) rfl rfl
  · have hm := ifB_f hb hm
    refine cj_skip ?_
    refine nj_seq ?_
    refine cj_seq ?_
    refine cj_reg ?_
    refine lp rfl (p_mv rfl) ?_
    refine lp rfl (p_mv rfl) ?_
    obtain ⟨z1, hz1, hm⟩ := bindS hm
    refine lp rfl (p_remM hz1 rfl rfl) ?_
    refine lp rfl (p_as rfl) ?_
    refine lj_seq ?_
    refine cj_seq ?_
    refine cj_seq ?_
    refine cj_reg ?_
    refine lp rfl (p_mv rfl) ?_
    refine lp rfl (p_lss rfl rfl) ?_
    refine lj_seq ?_
    refine cj_if (b := decide (z1 < 0)) rfl (fun hb => ?_) (fun hb => ?_)
    · have hm := ifB_t hb hm
      refine cj_reg ?_
      refine lp rfl (p_mv rfl) ?_
      refine lp rfl (p_mv rfl) ?_
      refine lp rfl (p_add rfl rfl) ?_
      refine lp rfl (p_as rfl) ?_
      refine lj_seq ?_
      refine cj_seq ?_
      refine cj_reg ?_
      refine lp rfl (p_mv rfl) ?_
      refine lp rfl (p_as rfl) ?_
      refine lj_seq ?_
      obtain rfl := Option.some.inj hm
      exact cj_rt () [] Tryd.results83 (.tmp rfl .nil) rfl rfl
    · have hm := ifB_f hb hm
      refine cj_skip ?_
      refine nj_seq ?_
      refine cj_seq ?_
      refine cj_reg ?_
      refine lp rfl (p_mv rfl) ?_
      refine lp rfl (p_as rfl) ?_
      refine lj_seq ?_
      obtain rfl := Option.some.inj hm
      exact cj_rt () [] Tryd.results83 (.tmp rfl .nil) rfl rfl
theorem ok_gleemake_Stream_Next (b0_ : Nat) (s0_0_ : SV) (a0_0 : (List Int)) (a0_1 : Int) (a1 : Int) {r : Int × Int} (hm : m_gleemake_Stream_Next a0_0 a0_1 a1 = some r) :
    Ctr Tryd.prog 41 [.pointer (some ⟨b0_, 0, none⟩), .int .i64 a1].toArray [.box b0_ 25 [s0_0_.v, .int .i64 a0_1]] [RdS R3 (SV.v s0_0_) a0_0] (X := Unit) (fun _ => .int .i64 r.1) (fun _ => [.box b0_ 25 [s0_0_.v, .int .i64 r.2]]) := by
  unfold m_gleemake_Stream_Next at hm
  refine ctr_mk (vs := [(0, .pointer (some ⟨b0_, 0, none⟩)), (1, .int .i64 a1)]) Tryd.func41 rfl Tryd.ntmps41 rfl ⟨rfl, rfl, trivial⟩ (fun w0 A => ?_)
  refine cj_seq ?_
  refine cj_reg ?_
  refine lp rfl (p_as rfl) ?_
  refine lj_seq ?_
  refine cj_seq ?_
  refine cj_reg ?_
  refine lp rfl (p_mv rfl) ?_
  refine lp rfl (p_nc rfl) ?_
  refine lp rfl (p_fab fl25_1 rfl) ?_
  refine lp rfl (p_lbs ty3 rfl (j := 0) rfl rfl) ?_
  refine lp rfl (p_add rfl rfl) ?_
  refine lp rfl (p_nc rfl) ?_
  refine lp rfl (p_fab fl25_1 rfl) ?_
  refine r_sb (vs := [.int .i64 (w64 (a0_1 + 1))]) (j := 0) ty3 rfl rfl rfl rfl rfl rfl rfl ?_
  refine lj_seq ?_
  refine cj_seq ?_
  refine cj_seq ?_
  refine cj_reg ?_
  refine lp rfl (p_mv rfl) ?_
  refine lp rfl (p_nc rfl) ?_
  refine lp rfl (p_fab fl25_0 rfl) ?_
  refine lp rfl (p_lbs ty22 rfl (j := 0) rfl rfl) ?_
  refine lp rfl (p_len Tryd.underlying22 rfl (.ro 1 rfl)) ?_
  refine lp rfl (p_eql rfl rfl) ?_
  refine lj_seq ?_
  refine cj_if (b := (a0_0.length : Int) == 0) rfl (fun hb => ?_) (fun hb => ?_)
  · have hm := ifB_t hb hm
    refine cj_seq ?_
    refine cj_reg ?_
    refine lp rfl (p_mv rfl) ?_
    refine lp rfl (p_nc rfl) ?_
    refine lp rfl (p_fab fl25_1 rfl) ?_
    refine lp rfl (p_lbs ty3 rfl (j := 0) rfl rfl) ?_
    refine lp rfl (p_mul rfl rfl) ?_
    refine lp rfl (p_mv rfl) ?_
    obtain ⟨y1, hy1, hm⟩ := bindS hm
    refine r_call [] cf83 rfl rfl (ok_gleemake_Below (w64 ((w64 (a0_1 + 1)) * 7919)) a1 hy1) rfl rfl .nil (fun _ => rfl) rfl (fun _ => ?_)
    refine lp rfl (p_as rfl) ?_
    refine lj_seq ?_
    obtain rfl := Option.some.inj hm
    exact cj_rt () [0] Tryd.results41 (.tmp rfl .nil) rfl rfl
  · have hm := ifB_f hb hm
    refine cj_skip ?_
    refine nj_seq ?_
    refine cj_seq ?_
    refine cj_quiet (by kernel_rfl) (by kernel_rfl) ?_
    refine q_p rfl (p_mv rfl) ?_
    refine q_p rfl (p_nc rfl) ?_
    refine q_p rfl (p_fab fl25_1 rfl) ?_
    refine q_p rfl (p_lbs ty3 rfl (j := 0) rfl rfl) ?_
    refine q_p rfl (p_sub rfl rfl) ?_
    refine q_p rfl (p_mv rfl) ?_
    refine q_p rfl (p_nc rfl) ?_
    refine q_p rfl (p_fab fl25_0 rfl) ?_
    refine q_p rfl (p_lbs ty22 rfl (j := 0) rfl rfl) ?_
    refine q_p rfl (p_len Tryd.underlying22 rfl (.ro 1 rfl)) ?_
    obtain ⟨z2, hz2, hm⟩ := bindS hm
    refine q_p rfl (p_remM hz2 rfl rfl) ?_
    refine q_p rfl (p_as rfl) ?_
    refine q_nil ?_
    refine nj_seq ?_
    refine cj_seq ?_
    refine cj_quiet (by kernel_rfl) (by kernel_rfl) ?_
    refine q_p rfl (p_mv rfl) ?_
    refine q_p rfl (p_nc rfl) ?_
    refine q_p rfl (p_fab fl25_1 rfl) ?_
    refine q_p rfl (p_lbs ty3 rfl (j := 0) rfl rfl) ?_
    refine q_p rfl (p_sub rfl rfl) ?_
    refine q_p rfl (p_mv rfl) ?_
    refine q_p rfl (p_nc rfl) ?_
    refine q_p rfl (p_fab fl25_0 rfl) ?_
    refine q_p rfl (p_lbs ty22 rfl (j := 0) rfl rfl) ?_
    refine q_p rfl (p_len Tryd.underlying22 rfl (.ro 1 rfl)) ?_
    obtain ⟨z3, hz3, hm⟩ := bindS hm
    refine q_p rfl (p_quoM hz3 rfl rfl) ?_
    refine q_p rfl (p_as rfl) ?_
    refine q_nil ?_
    refine nj_seq ?_
    refine cj_seq ?_
    refine cj_reg ?_
    refine lp rfl (p_mv rfl) ?_
    refine lp rfl (p_nc rfl) ?_
    refine lp rfl (p_fab fl25_0 rfl) ?_
    refine lp rfl (p_lbs ty22 rfl (j := 0) rfl rfl) ?_
    refine lp rfl (p_mv rfl) ?_
    obtain ⟨e4, he4, hm⟩ := bindS hm
    refine lp rfl (p_idx Tryd.underlying22 ty3 rfl rfl (.ro 1 rfl) he4) ?_
    refine lp rfl (p_lde (o := 0) ty3 rfl rfl (.ro 1 rfl) (getI_spec he4).2 rfl) ?_
    obtain ⟨y5, hy5, hm⟩ := bindS hm
    refine r_call [] cf83 rfl rfl (ok_gleemake_Below e4 1073741824 hy5) rfl rfl .nil (fun _ => rfl) rfl (fun _ => ?_)
    refine lp rfl (p_mv rfl) ?_
    refine lp rfl (p_mv rfl) ?_
    refine lp rfl (p_add rfl rfl) ?_
    refine lp rfl (p_mul rfl rfl) ?_
    refine lp rfl (p_add rfl rfl) ?_
    refine lp rfl (p_mv rfl) ?_
    obtain ⟨y6, hy6, hm⟩ := bindS hm
    refine r_call [] cf83 rfl rfl (ok_gleemake_Below (w64 (y5 + (w64 (z3 * (w64 (7919 + z2)))))) a1 hy6) rfl rfl .nil (fun _ => rfl) rfl (fun _ => ?_)
    refine lp rfl (p_as rfl) ?_
    refine lj_seq ?_
    obtain rfl := Option.some.inj hm
    exact cj_rt () [0] Tryd.results41 (.tmp rfl .nil) rfl rfl
theorem ok_gleemake_Stream_Pick (b0_ : Nat) (s0_0_ : SV) (a0_0 : (List Int)) (a0_1 : Int) (s1_ : SV) (a1 : (List Int)) {r : Int × Int} (hm : m_gleemake_Stream_Pick a0_0 a0_1 a1 = some r) :
    Ctr Tryd.prog 35 [.pointer (some ⟨b0_, 0, none⟩), s1_.v].toArray [.box b0_ 25 [s0_0_.v, .int .i64 a0_1]] [RdS R3 (SV.v s0_0_) a0_0, RdS R3 (SV.v s1_) a1] (X := Unit) (fun _ => .int .i64 r.1) (fun _ => [.box b0_ 25 [s0_0_.v, .int .i64 r.2]]) := by
  unfold m_gleemake_Stream_Pick at hm
  refine ctr_mk (vs := [(0, .pointer (some ⟨b0_, 0, none⟩)), (1, s1_.v)]) Tryd.func35 rfl Tryd.ntmps35 rfl ⟨rfl, rfl, trivial⟩ (fun w0 A => ?_)
  refine cj_seq ?_
  refine cj_reg ?_
  refine lp rfl (p_as rfl) ?_
  refine lj_seq ?_
  refine cj_seq ?_
  refine cj_reg ?_
  refine lp rfl (p_mv rfl) ?_
  refine lp rfl (p_mv rfl) ?_
  refine lp rfl (p_mv rfl) ?_
  refine lp rfl (p_len Tryd.underlying22 rfl (.ro 2 rfl)) ?_
  obtain ⟨y1, hy1, hm⟩ := bindS hm
  refine r_call [0] cf41 rfl rfl (ok_gleemake_Stream_Next b0_ s0_0_ a0_0 a0_1 (a1.length : Int) hy1) rfl rfl (.cons (.ro 0 rfl) .nil) (fun _ => rfl) rfl (fun _ => ?_)
  obtain ⟨e2, he2, hm⟩ := bindS hm
  refine lp rfl (p_idx Tryd.underlying22 ty3 rfl rfl (.ro 2 rfl) he2) ?_
  refine lp rfl (p_lde (o := 0) ty3 rfl rfl (.ro 2 rfl) (getI_spec he2).2 rfl) ?_
  refine lp rfl (p_as rfl) ?_
  refine lj_seq ?_
  obtain rfl := Option.some.inj hm
  exact cj_rt () [0] Tryd.results35 (.tmp rfl .nil) rfl rfl
theorem ok_gleemake_Stream_Flip (b0_ : Nat) (s0_0_ : SV) (a0_0 : (List Int)) (a0_1 : Int) (a1 : Int) {r : Bool × Int} (hm : m_gleemake_Stream_Flip a0_0 a0_1 a1 = some r) :
    Ctr Tryd.prog 29 [.pointer (some ⟨b0_, 0, none⟩), .int .i64 a1].toArray [.box b0_ 25 [s0_0_.v, .int .i64 a0_1]] [RdS R3 (SV.v s0_0_) a0_0] (X := Unit) (fun _ => .bool r.1) (fun _ => [.box b0_ 25 [s0_0_.v, .int .i64 r.2]]) := by
  unfold m_gleemake_Stream_Flip at hm
  refine ctr_mk (vs := [(0, .pointer (some ⟨b0_, 0, none⟩)), (1, .int .i64 a1)]) Tryd.func29 rfl Tryd.ntmps29 rfl ⟨rfl, rfl, trivial⟩ (fun w0 A => ?_)
  refine cj_seq ?_
  refine cj_reg ?_
  refine lp rfl (p_as rfl) ?_
  refine lj_seq ?_
  refine cj_seq ?_
  refine cj_reg ?_
  refine lp rfl (p_mv rfl) ?_
  refine lp rfl (p_mv rfl) ?_
  obtain ⟨y1, hy1, hm⟩ := bindS hm
  refine r_call [0] cf41 rfl rfl (ok_gleemake_Stream_Next b0_ s0_0_ a0_0 a0_1 a1 hy1) rfl rfl (.cons (.ro 0 rfl) .nil) (fun _ => rfl) rfl (fun _ => ?_)
  refine lp rfl (p_eql rfl rfl) ?_
  refine lp rfl (p_as rfl) ?_
  refine lj_seq ?_
  obtain rfl := Option.some.inj hm
  exact cj_rt () [0] Tryd.results29 (.tmp rfl .nil) rfl rfl
theorem ok_gleemake_Stream_Some (b0_ : Nat) (s0_0_ : SV) (a0_0 : (List Int)) (a0_1 : Int) (s1_ : SV) (a1 : (List ByteArray)) {r : ByteArray × Int} (hm : m_gleemake_Stream_Some a0_0 a0_1 a1 = some r) :
    Ctr Tryd.prog 30 [.pointer (some ⟨b0_, 0, none⟩), s1_.v].toArray [.box b0_ 25 [s0_0_.v, .int .i64 a0_1]] [RdS R3 (SV.v s0_0_) a0_0, RdS R9 (SV.v s1_) a1] (X := Unit) (fun _ => .string r.1) (fun _ => [.box b0_ 25 [s0_0_.v, .int .i64 r.2]]) := by
  unfold m_gleemake_Stream_Some at hm
  refine ctr_mk (vs := [(0, .pointer (some ⟨b0_, 0, none⟩)), (1, s1_.v)]) Tryd.func30 rfl Tryd.ntmps30 rfl ⟨rfl, rfl, trivial⟩ (fun w0 A => ?_)
  refine cj_seq ?_
  refine cj_reg ?_
  refine lp rfl (p_as rfl) ?_
  refine lj_seq ?_
  refine cj_seq ?_
  refine cj_reg ?_
  refine lp rfl (p_mv rfl) ?_
  refine lp rfl (p_mv rfl) ?_
  refine lp rfl (p_mv rfl) ?_
  refine lp rfl (p_len Tryd.underlying49 rfl (.ro 2 rfl)) ?_
  obtain ⟨y1, hy1, hm⟩ := bindS hm
  refine r_call [0] cf41 rfl rfl (ok_gleemake_Stream_Next b0_ s0_0_ a0_0 a0_1 (a1.length : Int) hy1) rfl rfl (.cons (.ro 0 rfl) .nil) (fun _ => rfl) rfl (fun _ => ?_)
  obtain ⟨e2, he2, hm⟩ := bindS hm
  refine lp rfl (p_idx Tryd.underlying49 ty9 rfl rfl (.ro 2 rfl) he2) ?_
  refine lp rfl (p_lde (o := 0) ty9 rfl rfl (.ro 2 rfl) (getI_spec he2).2 rfl) ?_
  refine lp rfl (p_as rfl) ?_
  refine lj_seq ?_
  obtain rfl := Option.some.inj hm
  exact cj_rt () [0] Tryd.results30 (.tmp rfl .nil) rfl rfl
theorem ok_gleemake_Stream_RightProgram (b0_ : Nat) (s0_0_ : SV) (a0_0 : (List Int)) (a0_1 : Int) (a1 : Int) {r : TProgram × Int} (hm : m_gleemake_Stream_RightProgram a0_0 a0_1 a1 = some r) :
    Ctr Tryd.prog 40 [.pointer (some ⟨b0_, 0, none⟩), .int .i64 a1].toArray [.box b0_ 25 [s0_0_.v, .int .i64 a0_1]] [RdS R3 (SV.v s0_0_) a0_0] (X := (SV × List (TItem × SV))) (fun s => .agg [s.1.v, .int .i64 r.1.Change, .int .i64 r.1.Clap, .int .i64 r.1.Break, .int .i64 r.1.Half].toArray) (fun s => [.row N63.R (SV.v s.1) s.2, .ro (Lk N63 r.1.Items s.2), .box b0_ 25 [s0_0_.v, .int .i64 r.2]]) := by
  unfold m_gleemake_Stream_RightProgram at hm
  refine ctr_mk (vs := [(0, .pointer (some ⟨b0_, 0, none⟩)), (1, .int .i64 a1)]) Tryd.func40 rfl Tryd.ntmps40 rfl ⟨rfl, rfl, trivial⟩ (fun w0 A => ?_)
  refine cj_seq ?_
  refine cj_reg ?_
  refine r_al ty28 rfl (fun b1 => ?_)
  refine lj_seq ?_
  refine cj_seq ?_
  refine cj_reg ?_
  refine lp rfl (p_mv rfl) ?_
  refine r_bs R3 [0, 30, 50] rfl rfl rfl (fun _ => by kernel_rfl) rfl (fun s2 => ?_)
  obtain ⟨y3, hy3, hm⟩ := bindS hm
  refine r_call [2] cf35 rfl rfl (ok_gleemake_Stream_Pick b0_ s0_0_ a0_0 a0_1 s2 [0, 30, 50] hy3) rfl rfl (.cons (.ro 2 rfl) (.cons (.row 0 rfl) .nil)) (fun _ => rfl) rfl (fun _ => ?_)
  refine lp rfl (p_mv rfl) ?_
  refine r_bs R3 [0, 10, 30] rfl rfl rfl (fun _ => by kernel_rfl) rfl (fun s4 => ?_)
  obtain ⟨y5, hy5, hm⟩ := bindS hm
  refine r_call [1] cf35 rfl rfl (ok_gleemake_Stream_Pick b0_ s0_0_ a0_0 y3.2 s4 [0, 10, 30] hy5) rfl rfl (.cons (.ro 3 rfl) (.cons (.row 0 rfl) .nil)) (fun _ => rfl) rfl (fun _ => ?_)
  refine lp rfl (p_mv rfl) ?_
  refine r_bs R3 [0, 100] rfl rfl rfl (fun _ => by kernel_rfl) rfl (fun s6 => ?_)
  obtain ⟨y7, hy7, hm⟩ := bindS hm
  refine r_call [1] cf35 rfl rfl (ok_gleemake_Stream_Pick b0_ s0_0_ a0_0 y5.2 s6 [0, 100] hy7) rfl rfl (.cons (.ro 4 rfl) (.cons (.row 0 rfl) .nil)) (fun _ => rfl) rfl (fun _ => ?_)
  refine lp rfl (p_bld [.slice none 0 0, .int .i64 y3.1, .int .i64 y5.1, .int .i64 y7.1, .int .i64 (-1)] rfl (fun _ => by kernel_rfl)) ?_
  refine r_al ty28 rfl (fun b8 => ?_)
  refine r_sb (vs := [.slice none 0 0, .int .i64 y3.1, .int .i64 y5.1, .int .i64 y7.1, .int .i64 (-1)]) (j := 0) ty28 rfl rfl rfl rfl rfl rfl rfl ?_
  refine lj_seq ?_
  refine cj_seq ?_
  refine cj_seq ?_
  refine cj_reg ?_
  refine r_bs R9 [(ByteArray.mk [99].toArray), (ByteArray.mk [97].toArray), (ByteArray.mk [100].toArray), (ByteArray.mk [98].toArray), (ByteArray.mk [101].toArray)] rfl rfl rfl (fun _ => by kernel_rfl) rfl (fun s9 => ?_)
  refine lp rfl (p_mv rfl) ?_
  obtain ⟨q10, hq10, hm⟩ := bindS hm
  refine lp rfl (p_cut Tryd.underlying49 ty9 rfl rfl rfl rfl rfl (.row 0 rfl) rfl rfl hq10) ?_
  refine lp rfl (p_len Tryd.underlying49 rfl (.imp (.row 0 rfl) (fun _ h => h.cut hq10))) ?_
  refine lp rfl (p_mv rfl) ?_
  refine lj_seq ?_
  refine cj_fact (F := Lk N63 [] []) (.nilL N63) ?_
  refine cj_nil N63.R ?_
  obtain ⟨f18, hf18, hm⟩ := bindS hm
  refine cj_range (γ := (SV × List (TItem × SV))) (m := (q10.length : Int)) hf18 (nilS, []) (fun u15 g16 => [(0, .pointer (some ⟨b0_, 0, none⟩)), (4, .pointer (some ⟨b1, 0, none⟩)), (5, .pointer (some ⟨b8, 0, none⟩)), (23, (s9.sub R9.sz (0 : Int).toNat a1.toNat).v)]) (fun u15 g16 => Sat w0 (keys [.box b0_ 25 [s0_0_.v, .int .i64 a0_1]]) A [.row R9 (SV.v s9) [(ByteArray.mk [99].toArray), (ByteArray.mk [97].toArray), (ByteArray.mk [100].toArray), (ByteArray.mk [98].toArray), (ByteArray.mk [101].toArray)], .box b8 28 [g16.1.v, .int .i64 y3.1, .int .i64 y5.1, .int .i64 y7.1, .int .i64 (-1)], .box b0_ 25 [s0_0_.v, .int .i64 u15.1], .box b1 28 [.slice none 0 0, .int .i64 0, .int .i64 0, .int .i64 0, .int .i64 0], .ro (RdS R3 (SV.v s0_0_) a0_0), .row N63.R (SV.v g16.1) g16.2, .ro (Lk N63 u15.2 g16.2)]) ⟨rfl, rfl, rfl, rfl, rfl, rfl, trivial⟩ (fun _ h => h.picks [2, 2, 2, 5, 5, 0, 0] rfl) (nat_lt _) (fun _ h => (FactAt.get (.imp (.row 2 rfl) (fun _ h => h.cut hq10)) h).1) (fun _ _ => ⟨rfl, rfl, rfl, rfl⟩) ⟨rfl, rfl, rfl, rfl, rfl⟩ rfl rfl rfl (fun u15 g16 e => ?_) (fun aftk17 i11 x12 u15 g16 k17 hx13 hs J hJk17 hBk17 hX I cnk17 => ?_)
  · have hm := Flow.fin_b e hm
    refine nj_pure (F := Lk N63 u15.2 g16.2) (.ro 6 rfl) (fun _ h => h.1) (fun hLu15_K50 => ?_)
    refine nj_seq ?_
    refine cj_seq ?_
    refine cj_seq ?_
    refine cj_reg ?_
    obtain ⟨k53, hk53, hm⟩ := bindS hm
    have hRk53 : ∀ t, k53 = .inr t → some t = some r := fun t e => by rw [e] at hm; exact hm
    refine lj_join (σ := (Bool × Int)) (γ := Unit) (fun u51 => k53 = .inl u51) (fun u51 g52 => [(0, .pointer (some ⟨b0_, 0, none⟩)), (4, .pointer (some ⟨b1, 0, none⟩)), (5, .pointer (some ⟨b8, 0, none⟩)), (74, .bool u51.1)]) (fun u51 g52 => Sat w0 (keys [.box b0_ 25 [s0_0_.v, .int .i64 a0_1]]) A [.box b8 28 [g16.1.v, .int .i64 y3.1, .int .i64 y5.1, .int .i64 y7.1, .int .i64 (-1)], .box b0_ 25 [s0_0_.v, .int .i64 u51.2], .box b1 28 [.slice none 0 0, .int .i64 0, .int .i64 0, .int .i64 0, .int .i64 0], .ro (RdS R3 (SV.v s0_0_) a0_0), .row N63.R (SV.v g16.1) g16.2, .ro (Lk N63 u15.2 g16.2)]) (fun u51 g52 hq => ?_) (fun J cnk53 => ?_)
    · have hm := Sum.fin_l hq hm
      refine cj_if (b := u51.1) rfl (fun hb => ?_) (fun hb => ?_)
      · have hm := ifB_t hb hm
        refine cj_reg ?_
        refine lp rfl (p_mv rfl) ?_
        refine lp rfl (p_fab fl28_0 rfl) ?_
        refine lp rfl (p_lbs ty26 rfl (j := 0) rfl rfl) ?_
        refine lp rfl (p_lenG hLu15_K50 Tryd.underlying26 rfl (.row 4 rfl)) ?_
        refine lp rfl (p_sub rfl rfl) ?_
        obtain ⟨y55, hy55, hm⟩ := bindS hm
        refine r_call [1] cf41 rfl rfl (ok_gleemake_Stream_Next b0_ s0_0_ a0_0 u51.2 (w64 ((u15.2.length : Int) - 1)) hy55) rfl rfl (.cons (.ro 2 rfl) .nil) (fun _ => rfl) rfl (fun _ => ?_)
        refine lp rfl (p_fab fl28_4 rfl) ?_
        refine r_sb (vs := [.int .i64 y55.1]) (j := 1) ty3 rfl rfl rfl rfl rfl rfl rfl ?_
        refine lj_seq ?_
        refine cj_seq ?_
        refine cj_reg ?_
        refine lp rfl (p_lbw ty28 rfl (j := 1) rfl rfl) ?_
        refine r_sb (vs := [g16.1.v, .int .i64 y3.1, .int .i64 y5.1, .int .i64 y7.1, .int .i64 y55.1]) (j := 2) ty28 rfl rfl rfl rfl rfl rfl rfl ?_
        refine lj_seq ?_
        obtain rfl := Option.some.inj hm
        exact cj_rt (g16.1, g16.2) [4, 4, 0] Tryd.results40 (.agg (k := 2) ty28 rfl rfl rfl .nil) rfl rfl
      · have hm := ifB_f hb hm
        refine cj_skip ?_
        refine nj_seq ?_
        refine cj_seq ?_
        refine cj_reg ?_
        refine lp rfl (p_lbw ty28 rfl (j := 0) rfl rfl) ?_
        refine r_sb (vs := [g16.1.v, .int .i64 y3.1, .int .i64 y5.1, .int .i64 y7.1, .int .i64 (-1)]) (j := 2) ty28 rfl rfl rfl rfl rfl rfl rfl ?_
        refine lj_seq ?_
        obtain rfl := Option.some.inj hm
        exact cj_rt (g16.1, g16.2) [4, 4, 1] Tryd.results40 (.agg (k := 2) ty28 rfl rfl rfl .nil) rfl rfl
    · have hm := hk53
      refine lp rfl (p_fab fl28_0 rfl) ?_
      refine lp rfl (p_lbs ty26 rfl (j := 1) rfl rfl) ?_
      refine lp rfl (p_lenG hLu15_K50 Tryd.underlying26 rfl (.row 5 rfl)) ?_
      refine lp rfl (p_gtr rfl rfl) ?_
      refine lp rfl (p_mv rfl) ?_
      refine lcase (i := 71) (decide ((u15.2.length : Int) > 1)) rfl (fun hb => ?_) (fun hb => ?_)
      · have hm := ifB_t hb hm
        refine lg true rfl rfl rfl ?_
        refine lp rfl (p_mv rfl) ?_
        refine lg true rfl rfl rfl ?_
        obtain ⟨y54, hy54, hm⟩ := bindS hm
        refine r_call [2] cf29 rfl rfl (ok_gleemake_Stream_Flip b0_ s0_0_ a0_0 u15.1 2 hy54) rfl rfl (.cons (.ro 3 rfl) .nil) (fun _ => rfl) rfl (fun _ => ?_)
        refine lp rfl (p_pkt rfl rfl) ?_
        refine lj_nil ?_
        exact cnk53 _ _ (y54.1, y54.2) () (Option.some.inj hm).symm ⟨rfl, rfl, rfl, rfl, trivial⟩ (fun _ h => h.picks [2, 0, 1, 1, 1, 1] rfl)
      · have hm := ifB_f hb hm
        refine ls true rfl rfl rfl rfl ?_
        refine ls true rfl rfl rfl rfl ?_
        refine lp rfl (p_pkf rfl rfl) ?_
        refine lj_nil ?_
        exact cnk53 _ _ (false, u15.1) () (Option.some.inj hm).symm ⟨rfl, rfl, rfl, rfl, trivial⟩ (fun _ h => h.picks [1, 1, 1, 1, 1, 1] rfl)
  · have hRk17 : ∀ t, k17 = .ret t → some t = some r := fun t e => by rw [hX t e] at hm; exact hm
    have hm := hs
    refine cj_pure (F := Lk N63 u15.2 g16.2) (.ro 6 rfl) (fun _ h => h.1) (fun hLu15_K19 => ?_)
    refine cj_seq ?_
    refine cj_reg ?_
    refine lp rfl (p_idx Tryd.underlying49 ty9 rfl rfl (.imp (.row 0 rfl) (fun _ h => h.cut hq10)) (getI_nat.trans hx13)) ?_
    refine lp rfl (p_lde (o := 0) ty9 rfl rfl (.imp (.row 0 rfl) (fun _ h => h.cut hq10)) hx13 rfl) ?_
    refine lp rfl (p_as rfl) ?_
    refine lj_seq ?_
    refine cj_seq ?_
    refine cj_seq ?_
    refine cj_reg ?_
    refine lp rfl (p_mv rfl) ?_
    obtain ⟨y20, hy20, hm⟩ := bindS hm
    refine r_call [2] cf29 rfl rfl (ok_gleemake_Stream_Flip b0_ s0_0_ a0_0 u15.1 6 hy20) rfl rfl (.cons (.ro 3 rfl) .nil) (fun _ => rfl) rfl (fun _ => ?_)
    refine lj_seq ?_
    refine cj_if (b := y20.1) rfl (fun hb => ?_) (fun hb => ?_)
    · have hm := ifB_t hb hm
      refine cj_exit rfl ?_
      exact cnk17 _ _ (y20.2, u15.2) (g16.1, g16.2) (hJk17 _ (Option.some.inj hm).symm) ⟨rfl, rfl, rfl, rfl, rfl, rfl, trivial⟩ (fun _ h => h.picks [1, 1, 0, 0, 0, 0, 0] rfl)
    · have hm := ifB_f hb hm
      refine cj_skip ?_
      refine nj_seq ?_
      refine cj_seq ?_
      refine cj_reg ?_
      refine lp rfl (p_mv rfl) ?_
      refine lp rfl (p_mv rfl) ?_
      refine r_bs R9 [(ByteArray.mk [114, 111, 119, 115].toArray), (ByteArray.mk [114, 111, 119, 115].toArray), (ByteArray.mk [99, 105, 114, 99, 108, 101].toArray)] rfl rfl rfl (fun _ => by kernel_rfl) rfl (fun s21 => ?_)
      obtain ⟨y22, hy22, hm⟩ := bindS hm
      refine r_call [1] cf30 rfl rfl (ok_gleemake_Stream_Some b0_ s0_0_ a0_0 y20.2 s21 [(ByteArray.mk [114, 111, 119, 115].toArray), (ByteArray.mk [114, 111, 119, 115].toArray), (ByteArray.mk [99, 105, 114, 99, 108, 101].toArray)] hy22) rfl rfl (.cons (.ro 4 rfl) (.cons (.row 0 rfl) .nil)) (fun _ => rfl) rfl (fun _ => ?_)
      refine lp rfl (p_mv rfl) ?_
      refine r_bs R3 [50, 100, 100, 200] rfl rfl rfl (fun _ => by kernel_rfl) rfl (fun s23 => ?_)
      obtain ⟨y24, hy24, hm⟩ := bindS hm
      refine r_call [1] cf35 rfl rfl (ok_gleemake_Stream_Pick b0_ s0_0_ a0_0 y22.2 s23 [50, 100, 100, 200] hy24) rfl rfl (.cons (.ro 5 rfl) (.cons (.row 0 rfl) .nil)) (fun _ => rfl) rfl (fun _ => ?_)
      refine lp rfl (p_bld [.string x12, .string y22.1, .int .i64 y24.1, .slice none 0 0] rfl (fun _ => by kernel_rfl)) ?_
      refine r_al ty63 rfl (fun b25 => ?_)
      refine r_sb (vs := [.string x12, .string y22.1, .int .i64 y24.1, .slice none 0 0]) (j := 0) ty63 rfl rfl rfl rfl rfl rfl rfl ?_
      refine lj_seq ?_
      refine cj_seq ?_
      refine cj_seq ?_
      refine cj_reg ?_
      refine r_bs R9 [(ByteArray.mk [97, 108, 116, 111].toArray), (ByteArray.mk [98, 97, 115, 115].toArray), (ByteArray.mk [115, 111, 108, 105].toArray)] rfl rfl rfl (fun _ => by kernel_rfl) rfl (fun s26 => ?_)
      refine lp rfl (p_len Tryd.underlying49 rfl (.row 0 rfl)) ?_
      refine lp rfl (p_mv rfl) ?_
      refine lj_seq ?_
      refine cj_nil R9 ?_
      obtain ⟨f34, hf34, hm⟩ := bindS hm
      refine cj_range (γ := SV) (m := ([(ByteArray.mk [97, 108, 116, 111].toArray), (ByteArray.mk [98, 97, 115, 115].toArray), (ByteArray.mk [115, 111, 108, 105].toArray)].length : Int)) hf34 nilS (fun u31 g32 => [(0, .pointer (some ⟨b0_, 0, none⟩)), (4, .pointer (some ⟨b1, 0, none⟩)), (5, .pointer (some ⟨b8, 0, none⟩)), (8, .pointer (some ⟨b25, 0, none⟩)), (23, (s9.sub R9.sz (0 : Int).toNat a1.toNat).v), (24, .int .i64 (q10.length : Int)), (25, .int .i64 (i11 : Int)), (39, s26.v)]) (fun u31 g32 => Sat w0 (keys [.box b0_ 25 [s0_0_.v, .int .i64 a0_1]]) A [.row R9 (SV.v s26) [(ByteArray.mk [97, 108, 116, 111].toArray), (ByteArray.mk [98, 97, 115, 115].toArray), (ByteArray.mk [115, 111, 108, 105].toArray)], .box b25 63 [.string x12, .string y22.1, .int .i64 y24.1, g32.v], .box b0_ 25 [s0_0_.v, .int .i64 u31.1], .row R9 (SV.v s9) [(ByteArray.mk [99].toArray), (ByteArray.mk [97].toArray), (ByteArray.mk [100].toArray), (ByteArray.mk [98].toArray), (ByteArray.mk [101].toArray)], .box b8 28 [g16.1.v, .int .i64 y3.1, .int .i64 y5.1, .int .i64 y7.1, .int .i64 (-1)], .box b1 28 [.slice none 0 0, .int .i64 0, .int .i64 0, .int .i64 0, .int .i64 0], .ro (RdS R3 (SV.v s0_0_) a0_0), .row N63.R (SV.v g16.1) g16.2, .ro (Lk N63 u15.2 g16.2), .row R9 (SV.v g32) u31.2]) ⟨rfl, rfl, rfl, rfl, rfl, rfl, rfl, rfl, rfl, rfl, trivial⟩ (fun _ h => h.picks [1, 1, 1, 3, 3, 3, 3, 3, 3, 0] rfl) (nat_lt _) (fun _ h => (FactAt.get (.row 1 rfl) h).1) (fun _ _ => ⟨rfl, rfl, rfl, rfl⟩) ⟨rfl, rfl, rfl, rfl, rfl⟩ rfl rfl rfl (fun u31 g32 e => ?_) (fun aftk33 i27 x28 u31 g32 k33 hx29 hs J hJk33 hBk33 hX I cnk33 => ?_)
      · have hm := Flow.fin_b e hm
        refine nj_seq ?_
        refine cj_seq ?_
        refine cj_seq ?_
        refine cj_reg ?_
        refine lp rfl (p_fab fl63_3 rfl) ?_
        refine lp rfl (p_lbs ty49 rfl (j := 1) rfl rfl) ?_
        refine lp rfl (p_len Tryd.underlying49 rfl (.row 9 rfl)) ?_
        refine lp rfl (p_eql rfl rfl) ?_
        refine lj_seq ?_
        obtain ⟨k44, hk44, hm⟩ := bindS hm
        have hRk44 : ∀ t, k44 = .inr t → some t = some k17 := fun t e => by rw [e] at hm; exact hm
        refine cj_joinK (σ := (List ByteArray)) (γ := SV) (fun u41 => k44 = .inl u41) (fun u41 g42 => [(0, .pointer (some ⟨b0_, 0, none⟩)), (4, .pointer (some ⟨b1, 0, none⟩)), (5, .pointer (some ⟨b8, 0, none⟩)), (8, .pointer (some ⟨b25, 0, none⟩)), (23, (s9.sub R9.sz (0 : Int).toNat a1.toNat).v), (24, .int .i64 (q10.length : Int)), (25, .int .i64 (i11 : Int))]) (fun u41 g42 => Sat w0 (keys [.box b0_ 25 [s0_0_.v, .int .i64 a0_1]]) A [.box b25 63 [.string x12, .string y22.1, .int .i64 y24.1, g42.v], .box b0_ 25 [s0_0_.v, .int .i64 u31.1], .row R9 (SV.v s9) [(ByteArray.mk [99].toArray), (ByteArray.mk [97].toArray), (ByteArray.mk [100].toArray), (ByteArray.mk [98].toArray), (ByteArray.mk [101].toArray)], .box b8 28 [g16.1.v, .int .i64 y3.1, .int .i64 y5.1, .int .i64 y7.1, .int .i64 (-1)], .box b1 28 [.slice none 0 0, .int .i64 0, .int .i64 0, .int .i64 0, .int .i64 0], .ro (RdS R3 (SV.v s0_0_) a0_0), .row N63.R (SV.v g16.1) g16.2, .ro (Lk N63 u15.2 g16.2), .row R9 (SV.v g42) u41]) (fun u41 g42 hq => ?_) (fun J cnk44 => ?_)
        · have hm := Sum.fin_l hq hm
          refine cj_reg ?_
          refine lp rfl (p_fab fl28_0 rfl) ?_
          refine lp rfl (p_lbs ty26 rfl (j := 3) rfl rfl) ?_
          refine lp rfl (p_lbw ty63 rfl (j := 0) rfl rfl) ?_
          refine r_fz 8 rfl ?_
          refine r_fact (F := Lk N63 [(TItem.mk x12 y22.1 y24.1 u41)] [((TItem.mk x12 y22.1 y24.1 u41), g42)]) (.imp (.and (.ro 0 rfl) (.nilL N63)) (fun _ h => Lk.cons h.1 h.2)) ?_
          refine r_bs N63.R [((TItem.mk x12 y22.1 y24.1 u41), g42)] rfl rfl rfl (fun _ => by kernel_rfl) rfl (fun s46 => ?_)
          obtain ⟨q47, hq47, hm⟩ := bindS hm
          refine r_fact (F := Lk N63 q47 (g16.2 ++ [((TItem.mk x12 y22.1 y24.1 u41), g42)])) (.imp (.and (.ro 10 rfl) (.ro 1 rfl)) (fun _ h => Lk.app hq47 h.1 h.2)) ?_
          refine r_app (k := 10) Tryd.underlying26 ty63 rfl rfl rfl rfl (.row 1 rfl) (lk_app hq47 hLu15_K19 rfl) rfl (fun s48 => ?_)
          refine lp rfl (p_fab fl28_0 rfl) ?_
          refine r_sb (vs := [s48.v]) (j := 7) ty26 rfl rfl rfl rfl rfl rfl rfl ?_
          refine lj_nil ?_
          refine nj_blk ?_
          exact cnk17 _ _ (u31.1, q47) (s48, (g16.2 ++ [((TItem.mk x12 y22.1 y24.1 u41), g42)])) (hJk17 _ (Option.some.inj hm).symm) ⟨rfl, rfl, rfl, rfl, rfl, rfl, trivial⟩ (fun _ h => h.picks [6, 6, 5, 5, 5, 5, 0] rfl)
        · have hm := hk44
          refine cj_if (b := (u31.2.length : Int) == 0) rfl (fun hb => ?_) (fun hb => ?_)
          · have hm := ifB_t hb hm
            refine cj_reg ?_
            refine r_bs R9 [(ByteArray.mk [97, 108, 116, 111].toArray)] rfl rfl rfl (fun _ => by kernel_rfl) rfl (fun s45 => ?_)
            refine lp rfl (p_fab fl63_3 rfl) ?_
            refine r_sb (vs := [s45.v]) (j := 2) ty49 rfl rfl rfl rfl rfl rfl rfl ?_
            refine lj_nil ?_
            exact cnk44 _ _ [(ByteArray.mk [97, 108, 116, 111].toArray)] s45 (Option.some.inj hm).symm ⟨rfl, rfl, rfl, rfl, rfl, rfl, rfl, trivial⟩ (fun _ h => h.picks [2, 2, 2, 2, 2, 2, 2, 2, 0] rfl)
          · have hm := ifB_f hb hm
            refine cj_skip ?_
            exact cnk44 _ _ u31.2 g32 (Option.some.inj hm).symm ⟨rfl, rfl, rfl, rfl, rfl, rfl, rfl, trivial⟩ (fun _ h => h.picks [1, 1, 1, 1, 1, 1, 1, 1, 1] rfl)
      · have hRk33 : ∀ t, k33 = .ret t → some t = some k17 := fun t e => by rw [hX t e] at hm; exact hm
        have hm := hs
        refine cj_seq ?_
        refine cj_reg ?_
        refine lp rfl (p_idx Tryd.underlying49 ty9 rfl rfl (.row 0 rfl) (getI_nat.trans hx29)) ?_
        refine lp rfl (p_lde (o := 0) ty9 rfl rfl (.row 0 rfl) hx29 rfl) ?_
        refine lp rfl (p_as rfl) ?_
        refine lj_seq ?_
        refine cj_seq ?_
        refine cj_reg ?_
        refine lp rfl (p_mv rfl) ?_
        obtain ⟨y36, hy36, hm⟩ := bindS hm
        refine r_call [2] cf29 rfl rfl (ok_gleemake_Stream_Flip b0_ s0_0_ a0_0 u31.1 2 hy36) rfl rfl (.cons (.ro 5 rfl) .nil) (fun _ => rfl) rfl (fun _ => ?_)
        refine lj_seq ?_
        refine cj_if (b := y36.1) rfl (fun hb => ?_) (fun hb => ?_)
        · have hm := ifB_t hb hm
          refine cj_reg ?_
          refine lp rfl (p_fab fl63_3 rfl) ?_
          refine lp rfl (p_lbs ty49 rfl (j := 2) rfl rfl) ?_
          refine lp rfl (p_mv rfl) ?_
          refine r_bs R9 [x28] rfl rfl rfl (fun _ => by kernel_rfl) rfl (fun s37 => ?_)
          obtain ⟨q38, hq38, hm⟩ := bindS hm
          refine r_app (k := 10) Tryd.underlying49 ty9 rfl rfl rfl rfl (.row 0 rfl) hq38 rfl (fun s39 => ?_)
          refine lp rfl (p_fab fl63_3 rfl) ?_
          refine r_sb (vs := [s39.v]) (j := 3) ty49 rfl rfl rfl rfl rfl rfl rfl ?_
          refine lj_nil ?_
          refine nj_blk ?_
          exact cnk33 _ _ (y36.2, q38) s39 (hJk33 _ (Option.some.inj hm).symm) ⟨rfl, rfl, rfl, rfl, rfl, rfl, rfl, rfl, rfl, rfl, trivial⟩ (fun _ h => h.picks [2, 2, 1, 1, 1, 1, 1, 1, 1, 1] rfl)
        · have hm := ifB_f hb hm
          refine cj_skip ?_
          refine nj_blk ?_
          exact cnk33 _ _ (y36.2, u31.2) g32 (hJk33 _ (Option.some.inj hm).symm) ⟨rfl, rfl, rfl, rfl, rfl, rfl, rfl, rfl, rfl, rfl, trivial⟩ (fun _ h => h.picks [1, 1, 0, 0, 0, 0, 0, 0, 0, 0] rfl)
theorem ok_gleemake_Stream_Range (b0_ : Nat) (s0_0_ : SV) (a0_0 : (List Int)) (a0_1 : Int) (a1 : Int) (a2 : Int) {r : Int × Int} (hm : m_gleemake_Stream_Range a0_0 a0_1 a1 a2 = some r) :
    Ctr Tryd.prog 31 [.pointer (some ⟨b0_, 0, none⟩), .int .i64 a1, .int .i64 a2].toArray [.box b0_ 25 [s0_0_.v, .int .i64 a0_1]] [RdS R3 (SV.v s0_0_) a0_0] (X := Unit) (fun _ => .int .i64 r.1) (fun _ => [.box b0_ 25 [s0_0_.v, .int .i64 r.2]]) := by
  unfold m_gleemake_Stream_Range at hm
  refine ctr_mk (vs := [(0, .pointer (some ⟨b0_, 0, none⟩)), (1, .int .i64 a1), (2, .int .i64 a2)]) Tryd.func31 rfl Tryd.ntmps31 rfl ⟨rfl, rfl, rfl, trivial⟩ (fun w0 A => ?_)
  refine cj_seq ?_
  refine cj_reg ?_
  refine lp rfl (p_as rfl) ?_
  refine lj_seq ?_
  refine cj_seq ?_
  refine cj_seq ?_
  refine cj_reg ?_
  refine lp rfl (p_mv rfl) ?_
  refine lp rfl (p_mv rfl) ?_
  refine lp rfl (p_lss rfl rfl) ?_
  refine lj_seq ?_
  refine cj_if (b := decide (a2 < a1)) rfl (fun hb => ?_) (fun hb => ?_)
  · have hm := ifB_t hb hm
    refine cj_seq ?_
    refine cj_reg ?_
    refine lp rfl (p_mv rfl) ?_
    refine lp rfl (p_as rfl) ?_
    refine lj_seq ?_
    obtain rfl := Option.some.inj hm
    exact cj_rt () [0] Tryd.results31 (.tmp rfl .nil) rfl rfl
  · have hm := ifB_f hb hm
    refine cj_skip ?_
    refine nj_seq ?_
    refine cj_seq ?_
    refine cj_reg ?_
    refine lp rfl (p_mv rfl) ?_
    refine lp rfl (p_mv rfl) ?_
    refine lp rfl (p_mv rfl) ?_
    refine lp rfl (p_mv rfl) ?_
    refine lp rfl (p_sub rfl rfl) ?_
    refine lp rfl (p_add rfl rfl) ?_
    obtain ⟨y1, hy1, hm⟩ := bindS hm
    refine r_call [0] cf41 rfl rfl (ok_gleemake_Stream_Next b0_ s0_0_ a0_0 a0_1 (w64 ((w64 (a2 - a1)) + 1)) hy1) rfl rfl (.cons (.ro 0 rfl) .nil) (fun _ => rfl) rfl (fun _ => ?_)
    refine lp rfl (p_add rfl rfl) ?_
    refine lp rfl (p_as rfl) ?_
    refine lj_seq ?_
    obtain rfl := Option.some.inj hm
    exact cj_rt () [0] Tryd.results31 (.tmp rfl .nil) rfl rfl
theorem ok_gleemake_Stream_Odd (b0_ : Nat) (s0_0_ : SV) (a0_0 : (List Int)) (a0_1 : Int) (a1 : Int) (a2 : Int) {r : Int × Int} (hm : m_gleemake_Stream_Odd a0_0 a0_1 a1 a2 = some r) :
    Ctr Tryd.prog 42 [.pointer (some ⟨b0_, 0, none⟩), .int .i64 a1, .int .i64 a2].toArray [.box b0_ 25 [s0_0_.v, .int .i64 a0_1]] [RdS R3 (SV.v s0_0_) a0_0] (X := Unit) (fun _ => .int .i64 r.1) (fun _ => [.box b0_ 25 [s0_0_.v, .int .i64 r.2]]) := by
  unfold m_gleemake_Stream_Odd at hm
  refine ctr_mk (vs := [(0, .pointer (some ⟨b0_, 0, none⟩)), (1, .int .i64 a1), (2, .int .i64 a2)]) Tryd.func42 rfl Tryd.ntmps42 rfl ⟨rfl, rfl, rfl, trivial⟩ (fun w0 A => ?_)
  refine cj_seq ?_
  refine cj_reg ?_
  refine lp rfl (p_as rfl) ?_
  refine lj_seq ?_
  refine cj_seq ?_
  refine cj_seq ?_
  refine cj_reg ?_
  refine lp rfl (p_mv rfl) ?_
  obtain ⟨y1, hy1, hm⟩ := bindS hm
  refine r_call [0] cf29 rfl rfl (ok_gleemake_Stream_Flip b0_ s0_0_ a0_0 a0_1 12 hy1) rfl rfl (.cons (.ro 0 rfl) .nil) (fun _ => rfl) rfl (fun _ => ?_)
  refine lj_seq ?_
  refine cj_if (b := y1.1) rfl (fun hb => ?_) (fun hb => ?_)
  · have hm := ifB_t hb hm
    refine cj_seq ?_
    refine cj_reg ?_
    refine lp rfl (p_mv rfl) ?_
    refine lp rfl (p_mv rfl) ?_
    refine lp rfl (p_sub rfl rfl) ?_
    refine lp rfl (p_mv rfl) ?_
    refine lp rfl (p_add rfl rfl) ?_
    refine lp rfl (p_mv rfl) ?_
    refine lp rfl (p_mv rfl) ?_
    refine r_bs R3 [w64 (a1 - 1), w64 (a2 + 1), a1, a2, (-1099511627776), 1099511627776] rfl rfl rfl (fun _ => by kernel_rfl) rfl (fun s2 => ?_)
    obtain ⟨y3, hy3, hm⟩ := bindS hm
    refine r_call [1] cf35 rfl rfl (ok_gleemake_Stream_Pick b0_ s0_0_ a0_0 y1.2 s2 [w64 (a1 - 1), w64 (a2 + 1), a1, a2, (-1099511627776), 1099511627776] hy3) rfl rfl (.cons (.ro 1 rfl) (.cons (.row 0 rfl) .nil)) (fun _ => rfl) rfl (fun _ => ?_)
    refine lp rfl (p_as rfl) ?_
    refine lj_seq ?_
    obtain rfl := Option.some.inj hm
    exact cj_rt () [0] Tryd.results42 (.tmp rfl .nil) rfl rfl
  · have hm := ifB_f hb hm
    refine cj_skip ?_
    refine nj_seq ?_
    refine cj_seq ?_
    refine cj_reg ?_
    refine lp rfl (p_mv rfl) ?_
    refine lp rfl (p_mv rfl) ?_
    refine lp rfl (p_mv rfl) ?_
    obtain ⟨y4, hy4, hm⟩ := bindS hm
    refine r_call [0] cf31 rfl rfl (ok_gleemake_Stream_Range b0_ s0_0_ a0_0 y1.2 a1 a2 hy4) rfl rfl (.cons (.ro 0 rfl) .nil) (fun _ => rfl) rfl (fun _ => ?_)
    refine lp rfl (p_as rfl) ?_
    refine lj_seq ?_
    obtain rfl := Option.some.inj hm
    exact cj_rt () [0] Tryd.results42 (.tmp rfl .nil) rfl rfl
theorem ok_slices_Clone_string_string (s0_ : SV) (a0 : (List ByteArray)) {r : (List ByteArray)} (hm : m_slices_Clone_string_string a0 = some r) :
    Ctr Tryd.prog 43 [s0_.v].toArray ([] : List Ent) [RdS R9 (SV.v s0_) a0] (X := SV) (fun s => s.v) (fun s => [.row R9 (SV.v s) r]) := by
  unfold m_slices_Clone_string_string at hm
  refine ctr_mk (vs := [(0, s0_.v)]) Tryd.func43 rfl Tryd.ntmps43 rfl ⟨rfl, trivial⟩ (fun w0 A => ?_)
  refine cj_seq ?_
  refine cj_reg ?_
  refine lp rfl (p_as rfl) ?_
  refine lj_seq ?_
  refine cj_seq ?_
  refine cj_seq ?_
  refine cj_reg ?_
  refine lp rfl (p_mv rfl) ?_
  refine lp rfl (p_eqnil Tryd.underlying49 rfl rfl) ?_
  refine lj_seq ?_
  refine cj_if (b := s0_.a.isNone) rfl (fun hb => ?_) (fun hb => ?_)
  · refine cj_pure (F := RdS R9 (SV.v s0_) a0) (.ro 0 rfl) (fun _ h => h.nil_of hb) (fun h5 => ?_)
    have hm : some [] = some r := by rw [h5, appM_nn] at hm; exact hm
    refine cj_seq ?_
    refine cj_reg ?_
    refine lp rfl (p_as rfl) ?_
    refine lj_seq ?_
    obtain rfl := Option.some.inj hm
    refine cj_nil R9 ?_
    exact cj_rt nilS [0] Tryd.results43 (.tmp rfl .nil) rfl rfl
  · refine cj_skip ?_
    refine nj_seq ?_
    refine cj_seq ?_
    refine cj_reg ?_
    refine r_bs R9 ([] : List ByteArray) rfl rfl rfl (fun _ => by kernel_rfl) rfl (fun s2 => ?_)
    refine lp rfl (p_mv rfl) ?_
    obtain ⟨q3, hq3, hm⟩ := bindS hm
    refine r_app (k := 0) Tryd.underlying49 ty9 rfl rfl rfl rfl (.ro 1 rfl) hq3 rfl (fun s4 => ?_)
    refine lp rfl (p_as rfl) ?_
    refine lj_seq ?_
    obtain rfl := Option.some.inj hm
    exact cj_rt s4 [0] Tryd.results43 (.tmp rfl .nil) rfl rfl
theorem ok_gleemake_Stream_AProgram (b0_ : Nat) (s0_0_ : SV) (a0_0 : (List Int)) (a0_1 : Int) (a1 : Int) {r : TProgram × Int} (hm : m_gleemake_Stream_AProgram a0_0 a0_1 a1 = some r) :
    Ctr Tryd.prog 6 [.pointer (some ⟨b0_, 0, none⟩), .int .i64 a1].toArray [.box b0_ 25 [s0_0_.v, .int .i64 a0_1]] [RdS R3 (SV.v s0_0_) a0_0] (X := (SV × List (TItem × SV))) (fun s => .agg [s.1.v, .int .i64 r.1.Change, .int .i64 r.1.Clap, .int .i64 r.1.Break, .int .i64 r.1.Half].toArray) (fun s => [.row N63.R (SV.v s.1) s.2, .ro (Lk N63 r.1.Items s.2), .box b0_ 25 [s0_0_.v, .int .i64 r.2]]) := by
  unfold m_gleemake_Stream_AProgram at hm
  refine ctr_mk (vs := [(0, .pointer (some ⟨b0_, 0, none⟩)), (1, .int .i64 a1)]) Tryd.func6 rfl Tryd.ntmps6 rfl ⟨rfl, rfl, trivial⟩ (fun w0 A => ?_)
  refine cj_seq ?_
  refine cj_reg ?_
  refine r_al ty28 rfl (fun b1 => ?_)
  refine lj_seq ?_
  refine cj_seq ?_
  refine cj_reg ?_
  refine lp rfl (p_mv rfl) ?_
  refine lp rfl (p_mv rfl) ?_
  obtain ⟨y2, hy2, hm⟩ := bindS hm
  refine r_callN [1] cf40 rfl rfl (ok_gleemake_Stream_RightProgram b0_ s0_0_ a0_0 a0_1 a1 hy2) rfl rfl (.cons (.ro 1 rfl) .nil) rfl (fun ⟨s3, xg4⟩ => ?_)
  refine r_pure (F := Lk N63 y2.1.Items xg4) (.ro 1 rfl) (fun _ h => h.1) (fun hLs3 => ?_)
  refine r_al ty28 rfl (fun b5 => ?_)
  refine r_sb (vs := [s3.v, .int .i64 y2.1.Change, .int .i64 y2.1.Clap, .int .i64 y2.1.Break, .int .i64 y2.1.Half]) (j := 0) ty28 rfl rfl rfl rfl rfl rfl rfl ?_
  refine lj_seq ?_
  refine cj_seq ?_
  refine cj_seq ?_
  refine cj_reg ?_
  refine lp rfl (p_mv rfl) ?_
  obtain ⟨y6, hy6, hm⟩ := bindS hm
  refine r_call [3] cf29 rfl rfl (ok_gleemake_Stream_Flip b0_ s0_0_ a0_0 y2.2 12 hy6) rfl rfl (.cons (.ro 4 rfl) .nil) (fun _ => rfl) rfl (fun _ => ?_)
  refine lj_seq ?_
  refine cj_if (b := y6.1) rfl (fun hb => ?_) (fun hb => ?_)
  · have hm := ifB_t hb hm
    refine cj_seq ?_
    refine cj_reg ?_
    refine lp rfl (p_mv rfl) ?_
    obtain ⟨y7, hy7, hm⟩ := bindS hm
    refine r_call [0] cf41 rfl rfl (ok_gleemake_Stream_Next b0_ s0_0_ a0_0 y6.2 3 hy7) rfl rfl (.cons (.ro 4 rfl) .nil) (fun _ => rfl) rfl (fun _ => ?_)
    refine lj_seq ?_
    refine cj_blk ?_
    refine cj_seq ?_
    refine cj_reg ?_
    refine lp rfl (p_eql rfl rfl) ?_
    refine lp rfl (p_as rfl) ?_
    refine lj_seq ?_
    refine cj_if (b := y7.1 == 0) rfl (fun hb => ?_) (fun hb => ?_)
    · have hm := ifB_t hb hm
      refine cj_reg ?_
      refine lp rfl (p_mv rfl) ?_
      obtain ⟨y8, hy8, hm⟩ := bindS hm
      refine r_call [0] cf42 rfl rfl (ok_gleemake_Stream_Odd b0_ s0_0_ a0_0 y7.2 (-1) 4 hy8) rfl rfl (.cons (.ro 4 rfl) .nil) (fun _ => rfl) rfl (fun _ => ?_)
      refine lp rfl (p_fab fl28_4 rfl) ?_
      refine r_sb (vs := [.int .i64 y8.1]) (j := 1) ty3 rfl rfl rfl rfl rfl rfl rfl ?_
      refine lj_nil ?_
      refine nj_blk ?_
      refine nj_seq ?_
      refine cj_seq ?_
      refine cj_reg ?_
      refine lp rfl (p_lbw ty28 rfl (j := 1) rfl rfl) ?_
      refine r_sb (vs := [s3.v, .int .i64 y2.1.Change, .int .i64 y2.1.Clap, .int .i64 y2.1.Break, .int .i64 y8.1]) (j := 4) ty28 rfl rfl rfl rfl rfl rfl rfl ?_
      refine lj_seq ?_
      obtain rfl := Option.some.inj hm
      exact cj_rt (s3, xg4) [2, 2, 0] Tryd.results6 (.agg (k := 4) ty28 rfl rfl rfl .nil) rfl rfl
    · have hm := ifB_f hb hm
      refine cj_seq ?_
      refine cj_reg ?_
      refine lp rfl (p_eql rfl rfl) ?_
      refine lp rfl (p_as rfl) ?_
      refine lj_seq ?_
      refine cj_if (b := y7.1 == 1) rfl (fun hb => ?_) (fun hb => ?_)
      · have hm := ifB_t hb hm
        refine cj_reg ?_
        refine lp rfl (p_mv rfl) ?_
        obtain ⟨y9, hy9, hm⟩ := bindS hm
        refine r_call [0] cf42 rfl rfl (ok_gleemake_Stream_Odd b0_ s0_0_ a0_0 y7.2 0 86400000 hy9) rfl rfl (.cons (.ro 4 rfl) .nil) (fun _ => rfl) rfl (fun _ => ?_)
        refine lp rfl (p_mv rfl) ?_
        obtain ⟨y10, hy10, hm⟩ := bindS hm
        refine r_call [0] cf42 rfl rfl (ok_gleemake_Stream_Odd b0_ s0_0_ a0_0 y9.2 0 86400000 hy10) rfl rfl (.cons (.ro 4 rfl) .nil) (fun _ => rfl) rfl (fun _ => ?_)
        refine lp rfl (p_mv rfl) ?_
        obtain ⟨y11, hy11, hm⟩ := bindS hm
        refine r_call [0] cf42 rfl rfl (ok_gleemake_Stream_Odd b0_ s0_0_ a0_0 y10.2 0 86400000 hy11) rfl rfl (.cons (.ro 4 rfl) .nil) (fun _ => rfl) rfl (fun _ => ?_)
        refine lp rfl (p_fab fl28_1 rfl) ?_
        refine r_sb (vs := [.int .i64 y9.1]) (j := 1) ty3 rfl rfl rfl rfl rfl rfl rfl ?_
        refine lp rfl (p_fab fl28_2 rfl) ?_
        refine r_sb (vs := [.int .i64 y10.1]) (j := 1) ty3 rfl rfl rfl rfl rfl rfl rfl ?_
        refine lp rfl (p_fab fl28_3 rfl) ?_
        refine r_sb (vs := [.int .i64 y11.1]) (j := 1) ty3 rfl rfl rfl rfl rfl rfl rfl ?_
        refine lj_nil ?_
        refine nj_blk ?_
        refine nj_seq ?_
        refine cj_seq ?_
        refine cj_reg ?_
        refine lp rfl (p_lbw ty28 rfl (j := 1) rfl rfl) ?_
        refine r_sb (vs := [s3.v, .int .i64 y9.1, .int .i64 y10.1, .int .i64 y11.1, .int .i64 y2.1.Half]) (j := 4) ty28 rfl rfl rfl rfl rfl rfl rfl ?_
        refine lj_seq ?_
        obtain rfl := Option.some.inj hm
        exact cj_rt (s3, xg4) [2, 2, 0] Tryd.results6 (.agg (k := 4) ty28 rfl rfl rfl .nil) rfl rfl
      · have hm := ifB_f hb hm
        refine cj_seq ?_
        refine cj_reg ?_
        refine lp rfl (p_fab fl28_0 rfl) ?_
        refine lp rfl (p_lbs ty26 rfl (j := 1) rfl rfl) ?_
        refine lp rfl (p_lenG hLs3 Tryd.underlying26 rfl (.row 2 rfl)) ?_
        refine lp rfl (p_gtr rfl rfl) ?_
        refine lj_seq ?_
        refine cj_if (b := decide ((y2.1.Items.length : Int) > 0)) rfl (fun hb => ?_) (fun hb => ?_)
        · have hm := ifB_t hb hm
          refine cj_seq ?_
          obtain ⟨y12, hy12, hm⟩ := bindS hm
          obtain ⟨e13, he13, hm⟩ := bindS hm
          obtain ⟨ge13, he13G⟩ := lk_getI hLs3 he13
          refine cj_anyT [0, 1, 2, 3, 4, 5, 7, 8] [] (Sat w0 (keys [.box b0_ 25 [s0_0_.v, .int .i64 a0_1]]) A [.box b5 28 [s3.v, .int .i64 y2.1.Change, .int .i64 y2.1.Clap, .int .i64 y2.1.Break, .int .i64 y2.1.Half], .row N63.R (SV.v s3) xg4, .ro (Lk N63 y2.1.Items xg4), .box b1 28 [.slice none 0 0, .int .i64 0, .int .i64 0, .int .i64 0, .int .i64 0], .ro (RdS R3 (SV.v s0_0_) a0_0)]) (Sat w0 (keys [.box b0_ 25 [s0_0_.v, .int .i64 a0_1]]) A [.box b5 28 [s3.v, .int .i64 y2.1.Change, .int .i64 y2.1.Clap, .int .i64 y2.1.Break, .int .i64 y2.1.Half], .row N63.R (SV.v s3) xg4, .ro (Lk N63 y2.1.Items xg4), .box b1 28 [.slice none 0 0, .int .i64 0, .int .i64 0, .int .i64 0, .int .i64 0], .ro (RdS R3 (SV.v s0_0_) a0_0)]) (by kernel_rfl) ?_
          refine at_take2 0 rfl (by kernel_rfl) (by kernel_rfl) (by kernel_rfl) (fun _ h => h.picks [0, 0, 0, 0, 0] rfl) rfl rfl (p_fab fl28_0 rfl) (fun _ h => h.picks [1, 1, 1, 1, 1] rfl) ?_
          refine at_take2 1 rfl (by kernel_rfl) (by kernel_rfl) (by kernel_rfl) (fun _ h => h.picks [0, 0, 0, 0, 0] rfl) rfl rfl (p_lbs ty26 rfl (j := 0) rfl rfl) (fun _ h => h.picks [1, 1, 1, 1, 1] rfl) ?_
          refine at_take2 2 rfl (by kernel_rfl) (by kernel_rfl) (by kernel_rfl) (fun _ h => h.picks [0, 0, 0, 0, 0] rfl) rfl rfl (p_mv rfl) (fun _ h => h.picks [1, 1, 1, 1, 1] rfl) ?_
          refine at_take2 3 rfl (by kernel_rfl) (by kernel_rfl) (by kernel_rfl) (fun _ h => h.picks [0, 0, 0, 0, 0] rfl) rfl rfl (p_fab fl28_0 rfl) (fun _ h => h.picks [1, 1, 1, 1, 1] rfl) ?_
          refine at_take2 4 rfl (by kernel_rfl) (by kernel_rfl) (by kernel_rfl) (fun _ h => h.picks [0, 0, 0, 0, 0] rfl) rfl rfl (p_lbs ty26 rfl (j := 0) rfl rfl) (fun _ h => h.picks [1, 1, 1, 1, 1] rfl) ?_
          refine at_take2 5 rfl (by kernel_rfl) (by kernel_rfl) (by kernel_rfl) (fun _ h => h.picks [0, 0, 0, 0, 0] rfl) rfl rfl (p_lenG hLs3 Tryd.underlying26 rfl (.row 1 rfl)) (fun _ h => h.picks [1, 1, 1, 1, 1] rfl) ?_
          refine at_each (rs := [6]) (by kernel_rfl) (by decide) ?_
          refine (.cons rfl (fun I cnI => ?_) .nil)
          · refine r_call [0] cf41 rfl rfl (ok_gleemake_Stream_Next b0_ s0_0_ a0_0 y7.2 (y2.1.Items.length : Int) hy12) rfl rfl (.cons (.ro 4 rfl) .nil) (fun _ => rfl) rfl (fun _ => ?_)
            refine lj_nil ?_
            refine cnI _ _ (sof1 rfl rfl (fun _ h => h.picks [1, 1, 1, 1, 1] rfl)) ?_
            refine at_take2 7 rfl (by kernel_rfl) (by kernel_rfl) (by kernel_rfl) (fun _ h => h.picks [0, 0, 0, 0, 0] rfl) rfl rfl (p_idx Tryd.underlying26 ty63 rfl rfl (.row 1 rfl) he13G) (fun _ h => h.picks [1, 1, 1, 1, 1] rfl) ?_
            refine at_take2 8 rfl (by kernel_rfl) (by kernel_rfl) (by kernel_rfl) (fun _ h => h.picks [0, 0, 0, 0, 0] rfl) rfl rfl (p_as rfl) (fun _ h => h.picks [1, 1, 1, 1, 1] rfl) ?_
            refine at_done (by kernel_rfl) ?_
            refine nj_seq ?_
            refine cj_pure (F := RdS N63.R (SV.v s3) xg4) (.row 2 rfl) (fun _ h => h.some_of (getI_spec he13G).2) (fun hp79 => ?_)
            refine cj_pure (F := RdS N63.R (SV.v s3) xg4) (.row 2 rfl) (fun _ h => h.pures) (fun hq80 => ?_)
            obtain ⟨y67, hy67, hm⟩ := bindS hm
            obtain ⟨y68, hy68, hm⟩ := bindS hm
            obtain ⟨y69, hy69, hm⟩ := bindS hm
            obtain ⟨y72, hy72, hm⟩ := bindS hm
            obtain ⟨q74, hq74, hm⟩ := bindS hm
            refine cj_anyT [0, 1, 2, 3, 4, 5, 6, 7, 10, 12, 13, 14, 15, 17, 22, 23, 25, 26, 28, 29] [24, 25, 26, 27, 28, 29, 30] (Sat w0 (keys [.box b0_ 25 [s0_0_.v, .int .i64 a0_1]]) A [.box b5 28 [s3.v, .int .i64 y2.1.Change, .int .i64 y2.1.Clap, .int .i64 y2.1.Break, .int .i64 y2.1.Half], .row N63.R (SV.v s3) xg4, .ro (Lk N63 y2.1.Items xg4), .box b1 28 [.slice none 0 0, .int .i64 0, .int .i64 0, .int .i64 0, .int .i64 0], .ro (RdS R3 (SV.v s0_0_) a0_0)]) (Sat w0 (keys [.box b0_ 25 [s0_0_.v, .int .i64 a0_1]]) A [.box b5 28 [s3.v, .int .i64 y2.1.Change, .int .i64 y2.1.Clap, .int .i64 y2.1.Break, .int .i64 y2.1.Half], .ro (Lk N63 y2.1.Items xg4), .box b1 28 [.slice none 0 0, .int .i64 0, .int .i64 0, .int .i64 0, .int .i64 0], .ro (RdS R3 (SV.v s0_0_) a0_0)]) (by kernel_rfl) ?_
            refine at_take2 0 rfl (by kernel_rfl) (by kernel_rfl) (by kernel_rfl) (fun _ h => h.picks [0, 1, 1, 1] rfl) rfl rfl (p_mv rfl) (fun _ h => h.picks [1, 2, 2, 2] rfl) ?_
            refine at_take2 1 rfl (by kernel_rfl) (by kernel_rfl) (by kernel_rfl) (fun _ h => h.picks [0, 1, 1, 1] rfl) rfl rfl (p_mv rfl) (fun _ h => h.picks [1, 2, 2, 2] rfl) ?_
            refine at_take2 2 rfl (by kernel_rfl) (by kernel_rfl) (by kernel_rfl) (fun _ h => h.picks [0, 1, 1, 1] rfl) rfl rfl (p_mv rfl) (fun _ h => h.picks [1, 2, 2, 2] rfl) ?_
            refine at_take2 3 rfl (by kernel_rfl) (by kernel_rfl) (by kernel_rfl) (fun _ h => h.picks [0, 1, 1, 1] rfl) rfl rfl (p_mv rfl) (fun _ h => h.picks [1, 2, 2, 2] rfl) ?_
            refine at_take2 4 rfl (by kernel_rfl) (by kernel_rfl) (by kernel_rfl) (fun _ h => h.picks [0, 1, 1, 1] rfl) rfl rfl (p_mv rfl) (fun _ h => h.picks [1, 2, 2, 2] rfl) ?_
            refine at_take2 5 rfl (by kernel_rfl) (by kernel_rfl) (by kernel_rfl) (fun _ h => h.picks [0, 1, 1, 1] rfl) rfl rfl (p_ncs rfl hp79) (fun _ h => h.picks [1, 2, 2, 2] rfl) ?_
            refine at_take2 6 rfl (by kernel_rfl) (by kernel_rfl) (by kernel_rfl) (fun _ h => h.picks [0, 1, 1, 1] rfl) rfl rfl (p_fas fl63_0 rfl hp79) (fun _ h => h.picks [1, 2, 2, 2] rfl) ?_
            refine at_take1 7 rfl (by kernel_rfl) (by kernel_rfl) (by kernel_rfl) (by kernel_rfl) rfl rfl (p_lde (o := 0) ty9 rfl rfl (.row 1 rfl) (getI_spec he13G).2 rfl) (fun _ h => h.picks [1, 1, 1, 1, 1] rfl) ?_
            refine at_take2 10 rfl (by kernel_rfl) (by kernel_rfl) (by kernel_rfl) (fun _ h => h.picks [0, 1, 1, 1] rfl) rfl rfl (p_mv rfl) (fun _ h => h.picks [1, 2, 2, 2] rfl) ?_
            refine at_take2 12 rfl (by kernel_rfl) (by kernel_rfl) (by kernel_rfl) (fun _ h => h.picks [0, 1, 1, 1] rfl) rfl rfl (p_mv rfl) (fun _ h => h.picks [1, 2, 2, 2] rfl) ?_
            refine at_take2 13 rfl (by kernel_rfl) (by kernel_rfl) (by kernel_rfl) (fun _ h => h.picks [0, 1, 1, 1] rfl) rfl rfl (p_ncs rfl hp79) (fun _ h => h.picks [1, 2, 2, 2] rfl) ?_
            refine at_take2 14 rfl (by kernel_rfl) (by kernel_rfl) (by kernel_rfl) (fun _ h => h.picks [0, 1, 1, 1] rfl) rfl rfl (p_fas fl63_3 rfl hp79) (fun _ h => h.picks [1, 2, 2, 2] rfl) ?_
            refine at_take1 15 rfl (by kernel_rfl) (by kernel_rfl) (by kernel_rfl) (by kernel_rfl) rfl rfl (p_lde (o := 3) ty49 rfl rfl (.row 1 rfl) (getI_spec he13G).2 rfl) (fun _ h => h.picks [1, 1, 1, 1, 1] rfl) ?_
            refine at_take2 17 rfl (by kernel_rfl) (by kernel_rfl) (by kernel_rfl) (fun _ h => h.picks [0, 1, 1, 1] rfl) rfl rfl (p_mv rfl) (fun _ h => h.picks [1, 2, 2, 2] rfl) ?_
            refine at_each (rs := [8, 18]) (by kernel_rfl) (by decide) ?_
            refine (.cons rfl (fun I cnI => ?_) (.cons rfl (fun I cnI => ?_) .nil))
            · refine r_bs R9 [e13.Key, ByteArray.empty, (ByteArray.mk [97].toArray)] rfl rfl rfl (fun _ => by kernel_rfl) rfl (fun s81 => ?_)
              refine lj_nil ?_
              refine cnI _ _ (sof1 rfl rfl (fun _ h => h.picks [2, 2, 2, 2, 2] rfl)) ?_
              refine at_each (rs := [9, 18]) (by kernel_rfl) (by decide) ?_
              refine (.cons rfl (fun I cnI => ?_) (.cons rfl (fun I cnI => ?_) .nil))
              · refine r_call [1] cf30 rfl rfl (ok_gleemake_Stream_Some b0_ s0_0_ a0_0 y12.2 s81 [e13.Key, ByteArray.empty, (ByteArray.mk [97].toArray)] hy67) rfl rfl (.cons (.ro 5 rfl) (.cons (.row 0 rfl) .nil)) (fun _ => rfl) rfl (fun _ => ?_)
                refine lj_nil ?_
                refine cnI _ _ (sof1 rfl rfl (fun _ h => h.picks [2, 2, 2, 2, 2] rfl)) ?_
                refine at_each (rs := [11, 18]) (by kernel_rfl) (by decide) ?_
                refine (.cons rfl (fun I cnI => ?_) (.cons rfl (fun I cnI => ?_) .nil))
                · refine r_call [0] cf42 rfl rfl (ok_gleemake_Stream_Odd b0_ s0_0_ a0_0 y67.2 1 86400000 hy68) rfl rfl (.cons (.ro 5 rfl) .nil) (fun _ => rfl) rfl (fun _ => ?_)
                  refine lj_nil ?_
                  refine cnI _ _ (sof1 rfl rfl (fun _ h => h.picks [2, 2, 2, 2, 2] rfl)) ?_
                  refine at_each (rs := [16, 18]) (by kernel_rfl) (by decide) ?_
                  refine (.cons rfl (fun I cnI => ?_) (.cons rfl (fun I cnI => ?_) .nil))
                  · refine r_call [] cf43 rfl rfl (ok_slices_Clone_string_string ge13 e13.Parts hy69) rfl rfl (.cons (.imp (.ro 4 rfl) (fun _ h => (Lk.at_ h (getI_spec he13G).2))) .nil) (fun _ => rfl) rfl (fun s82 => ?_)
                    refine lj_nil ?_
                    refine cnI _ _ (sof1 rfl rfl (fun _ h => h.picks [3, 3, 3, 3, 3] rfl)) ?_
                    refine at_each (rs := [18]) (by kernel_rfl) (by decide) ?_
                    refine (.cons rfl (fun I cnI => ?_) .nil)
                    · refine r_bs R9 [(ByteArray.mk [122, 122].toArray), ByteArray.empty, (ByteArray.mk [97, 108, 116, 111].toArray)] rfl rfl rfl (fun _ => by kernel_rfl) rfl (fun s83 => ?_)
                      refine lj_nil ?_
                      refine cnI _ _ (sof1 rfl rfl (fun _ h => h.picks [4, 4, 4, 4, 4] rfl)) ?_
                      refine at_each (rs := [19]) (by kernel_rfl) (by decide) ?_
                      refine (.cons rfl (fun I cnI => ?_) .nil)
                      · refine r_call [2] cf30 rfl rfl (ok_gleemake_Stream_Some b0_ s0_0_ a0_0 y68.2 s83 [(ByteArray.mk [122, 122].toArray), ByteArray.empty, (ByteArray.mk [97, 108, 116, 111].toArray)] hy72) rfl rfl (.cons (.ro 7 rfl) (.cons (.row 0 rfl) .nil)) (fun _ => rfl) rfl (fun _ => ?_)
                        refine lj_nil ?_
                        refine cnI _ _ (sof1 rfl rfl (fun _ h => h.picks [4, 4, 4, 4, 4] rfl)) ?_
                        refine at_each (rs := [20]) (by kernel_rfl) (by decide) ?_
                        refine (.cons rfl (fun I cnI => ?_) .nil)
                        · refine r_bs R9 [y72.1] rfl rfl rfl (fun _ => by kernel_rfl) rfl (fun s84 => ?_)
                          refine lj_nil ?_
                          refine cnI _ _ (sof1 rfl rfl (fun _ h => h.picks [5, 5, 5, 5, 5] rfl)) ?_
                          refine at_each (rs := [21]) (by kernel_rfl) (by decide) ?_
                          refine (.cons rfl (fun I cnI => ?_) .nil)
                          · refine r_app (k := 3) Tryd.underlying49 ty9 rfl rfl rfl rfl (.row 0 rfl) hq74 rfl (fun s85 => ?_)
                            refine lj_nil ?_
                            refine cnI _ _ (sof1 rfl rfl (fun _ h => h.picks [5, 5, 5, 5, 5] rfl)) ?_
                            refine at_take2 22 rfl (by kernel_rfl) (by kernel_rfl) (by kernel_rfl) (fun _ h => h.picks [0, 1, 1, 1] rfl) rfl rfl (p_ncs rfl hp79) (fun _ h => h.picks [5, 6, 6, 6] rfl) ?_
                            refine at_take2 23 rfl (by kernel_rfl) (by kernel_rfl) (by kernel_rfl) (fun _ h => h.picks [0, 1, 1, 1] rfl) rfl rfl (p_fas fl63_0 rfl hp79) (fun _ h => h.picks [5, 6, 6, 6] rfl) ?_
                            refine at_each (rs := [24]) (by kernel_rfl) (by decide) ?_
                            refine (.cons rfl (fun I cnI => ?_) .nil)
                            · refine r_fact (F := Lk N63 (y2.1.Items.set y12.1.toNat (TItem.mk y67.1 e13.Places e13.Long e13.Parts)) (xg4.set y12.1.toNat ((TItem.mk y67.1 e13.Places e13.Long e13.Parts), ge13))) (.imp (.and (.ro 7 rfl) (.imp (.ro 7 rfl) (fun _ h => (Lk.at_ h (getI_spec he13G).2)))) (fun _ h => Lk.set h.1 h.2)) ?_
                              refine r_ste (k := 7) (o := 0) (vs := [.string y67.1]) ty9 rfl rfl rfl rfl rfl rfl rfl (getI_spec he13G).2 ((TItem.mk y67.1 e13.Places e13.Long e13.Parts), ge13) rfl rfl ?_
                              refine lj_nil ?_
                              refine cnI _ _ (sof2 rfl rfl (fun _ h => h.picks [6, 7, 7, 7] rfl)) ?_
                              refine at_take2 25 rfl (by kernel_rfl) (by kernel_rfl) (by kernel_rfl) (fun _ h => h.picks [0, 1, 1, 1] rfl) rfl rfl (p_ncs rfl hp79) (fun _ h => h.picks [6, 7, 7, 7] rfl) ?_
                              refine at_take2 26 rfl (by kernel_rfl) (by kernel_rfl) (by kernel_rfl) (fun _ h => h.picks [0, 1, 1, 1] rfl) rfl rfl (p_fas fl63_2 rfl hp79) (fun _ h => h.picks [6, 7, 7, 7] rfl) ?_
                              refine at_each (rs := [27]) (by kernel_rfl) (by decide) ?_
                              refine (.cons rfl (fun I cnI => ?_) .nil)
                              · refine r_fact (F := Lk N63 ((y2.1.Items.set y12.1.toNat (TItem.mk y67.1 e13.Places e13.Long e13.Parts)).set y12.1.toNat (TItem.mk y67.1 e13.Places y68.1 e13.Parts)) ((xg4.set y12.1.toNat ((TItem.mk y67.1 e13.Places e13.Long e13.Parts), ge13)).set y12.1.toNat ((TItem.mk y67.1 e13.Places y68.1 e13.Parts), ge13))) (.imp (.and (.ro 0 rfl) (.imp (.ro 8 rfl) (fun _ h => (Lk.at_ h (getI_spec he13G).2)))) (fun _ h => Lk.set h.1 h.2)) ?_
                                refine r_ste (k := 8) (o := 2) (vs := [.int .i64 y68.1]) ty3 rfl rfl rfl rfl rfl rfl rfl (set_he (getI_spec he13G).2) ((TItem.mk y67.1 e13.Places y68.1 e13.Parts), ge13) rfl rfl ?_
                                refine lj_nil ?_
                                refine cnI _ _ (sof2 rfl rfl (fun _ h => h.picks [7, 8, 8, 8] rfl)) ?_
                                refine at_take2 28 rfl (by kernel_rfl) (by kernel_rfl) (by kernel_rfl) (fun _ h => h.picks [0, 1, 1, 1] rfl) rfl rfl (p_ncs rfl hp79) (fun _ h => h.picks [7, 8, 8, 8] rfl) ?_
                                refine at_take2 29 rfl (by kernel_rfl) (by kernel_rfl) (by kernel_rfl) (fun _ h => h.picks [0, 1, 1, 1] rfl) rfl rfl (p_fas fl63_3 rfl hp79) (fun _ h => h.picks [7, 8, 8, 8] rfl) ?_
                                refine at_each (rs := [30]) (by kernel_rfl) (by decide) ?_
                                refine (.cons rfl (fun I cnI => ?_) .nil)
                                · refine r_fz 5 rfl ?_
                                  refine r_fact (F := Lk N63 (((y2.1.Items.set y12.1.toNat (TItem.mk y67.1 e13.Places e13.Long e13.Parts)).set y12.1.toNat (TItem.mk y67.1 e13.Places y68.1 e13.Parts)).set y12.1.toNat (TItem.mk y67.1 e13.Places y68.1 q74)) (((xg4.set y12.1.toNat ((TItem.mk y67.1 e13.Places e13.Long e13.Parts), ge13)).set y12.1.toNat ((TItem.mk y67.1 e13.Places y68.1 e13.Parts), ge13)).set y12.1.toNat ((TItem.mk y67.1 e13.Places y68.1 q74), s85))) (.imp (.and (.ro 1 rfl) (.ro 0 rfl)) (fun _ h => Lk.set h.1 h.2)) ?_
                                  refine r_ste (k := 9) (o := 3) (vs := [s85.v]) ty49 rfl rfl rfl rfl rfl rfl rfl (set_he (set_he (getI_spec he13G).2)) ((TItem.mk y67.1 e13.Places y68.1 q74), s85) rfl rfl ?_
                                  refine lj_nil ?_
                                  refine cnI _ _ (sof2 rfl rfl (fun _ h => h.picks [8, 9, 9, 9] rfl)) ?_
                                  refine at_done (by kernel_rfl) ?_
                                  refine nj_blk ?_
                                  refine nj_seq ?_
                                  refine cj_seq ?_
                                  refine cj_reg ?_
                                  refine lp rfl (p_lbw ty28 rfl (j := 8) rfl rfl) ?_
                                  refine r_sb (vs := [s3.v, .int .i64 y2.1.Change, .int .i64 y2.1.Clap, .int .i64 y2.1.Break, .int .i64 y2.1.Half]) (j := 11) ty28 rfl rfl rfl rfl rfl rfl rfl ?_
                                  refine lj_seq ?_
                                  obtain rfl := Option.some.inj hm
                                  exact cj_rt (s3, (((xg4.set y12.1.toNat ((TItem.mk y67.1 e13.Places e13.Long e13.Parts), ge13)).set y12.1.toNat ((TItem.mk y67.1 e13.Places y68.1 e13.Parts), ge13)).set y12.1.toNat ((TItem.mk y67.1 e13.Places y68.1 q74), s85))) [9, 0, 4] Tryd.results6 (.agg (k := 11) ty28 rfl rfl rfl .nil) rfl rfl
                  · refine r_bs R9 [(ByteArray.mk [122, 122].toArray), ByteArray.empty, (ByteArray.mk [97, 108, 116, 111].toArray)] rfl rfl rfl (fun _ => by kernel_rfl) rfl (fun s89 => ?_)
                    refine lj_nil ?_
                    refine cnI _ _ (sof1 rfl rfl (fun _ h => h.picks [3, 3, 3, 3, 3] rfl)) ?_
                    refine at_each (rs := [16]) (by kernel_rfl) (by decide) ?_
                    refine (.cons rfl (fun I cnI => ?_) .nil)
                    · refine r_call [] cf43 rfl rfl (ok_slices_Clone_string_string ge13 e13.Parts hy69) rfl rfl (.cons (.imp (.ro 5 rfl) (fun _ h => (Lk.at_ h (getI_spec he13G).2))) .nil) (fun _ => rfl) rfl (fun s90 => ?_)
                      refine lj_nil ?_
                      refine cnI _ _ (sof1 rfl rfl (fun _ h => h.picks [4, 4, 4, 4, 4] rfl)) ?_
                      refine at_each (rs := [19]) (by kernel_rfl) (by decide) ?_
                      refine (.cons rfl (fun I cnI => ?_) .nil)
                      · refine r_call [2] cf30 rfl rfl (ok_gleemake_Stream_Some b0_ s0_0_ a0_0 y68.2 s89 [(ByteArray.mk [122, 122].toArray), ByteArray.empty, (ByteArray.mk [97, 108, 116, 111].toArray)] hy72) rfl rfl (.cons (.ro 7 rfl) (.cons (.row 1 rfl) .nil)) (fun _ => rfl) rfl (fun _ => ?_)
                        refine lj_nil ?_
                        refine cnI _ _ (sof1 rfl rfl (fun _ h => h.picks [4, 4, 4, 4, 4] rfl)) ?_
                        refine at_each (rs := [20]) (by kernel_rfl) (by decide) ?_
                        refine (.cons rfl (fun I cnI => ?_) .nil)
                        · refine r_bs R9 [y72.1] rfl rfl rfl (fun _ => by kernel_rfl) rfl (fun s91 => ?_)
                          refine lj_nil ?_
                          refine cnI _ _ (sof1 rfl rfl (fun _ h => h.picks [5, 5, 5, 5, 5] rfl)) ?_
                          refine at_each (rs := [21]) (by kernel_rfl) (by decide) ?_
                          refine (.cons rfl (fun I cnI => ?_) .nil)
                          · refine r_app (k := 2) Tryd.underlying49 ty9 rfl rfl rfl rfl (.row 0 rfl) hq74 rfl (fun s92 => ?_)
                            refine lj_nil ?_
                            refine cnI _ _ (sof1 rfl rfl (fun _ h => h.picks [5, 5, 5, 5, 5] rfl)) ?_
                            refine at_take2 22 rfl (by kernel_rfl) (by kernel_rfl) (by kernel_rfl) (fun _ h => h.picks [0, 1, 1, 1] rfl) rfl rfl (p_ncs rfl hp79) (fun _ h => h.picks [5, 6, 6, 6] rfl) ?_
                            refine at_take2 23 rfl (by kernel_rfl) (by kernel_rfl) (by kernel_rfl) (fun _ h => h.picks [0, 1, 1, 1] rfl) rfl rfl (p_fas fl63_0 rfl hp79) (fun _ h => h.picks [5, 6, 6, 6] rfl) ?_
                            refine at_each (rs := [24]) (by kernel_rfl) (by decide) ?_
                            refine (.cons rfl (fun I cnI => ?_) .nil)
                            · refine r_fact (F := Lk N63 (y2.1.Items.set y12.1.toNat (TItem.mk y67.1 e13.Places e13.Long e13.Parts)) (xg4.set y12.1.toNat ((TItem.mk y67.1 e13.Places e13.Long e13.Parts), ge13))) (.imp (.and (.ro 7 rfl) (.imp (.ro 7 rfl) (fun _ h => (Lk.at_ h (getI_spec he13G).2)))) (fun _ h => Lk.set h.1 h.2)) ?_
                              refine r_ste (k := 7) (o := 0) (vs := [.string y67.1]) ty9 rfl rfl rfl rfl rfl rfl rfl (getI_spec he13G).2 ((TItem.mk y67.1 e13.Places e13.Long e13.Parts), ge13) rfl rfl ?_
                              refine lj_nil ?_
                              refine cnI _ _ (sof2 rfl rfl (fun _ h => h.picks [6, 7, 7, 7] rfl)) ?_
                              refine at_take2 25 rfl (by kernel_rfl) (by kernel_rfl) (by kernel_rfl) (fun _ h => h.picks [0, 1, 1, 1] rfl) rfl rfl (p_ncs rfl hp79) (fun _ h => h.picks [6, 7, 7, 7] rfl) ?_
                              refine at_take2 26 rfl (by kernel_rfl) (by kernel_rfl) (by kernel_rfl) (fun _ h => h.picks [0, 1, 1, 1] rfl) rfl rfl (p_fas fl63_2 rfl hp79) (fun _ h => h.picks [6, 7, 7, 7] rfl) ?_
                              refine at_each (rs := [27]) (by kernel_rfl) (by decide) ?_
                              refine (.cons rfl (fun I cnI => ?_) .nil)
                              · refine r_fact (F := Lk N63 ((y2.1.Items.set y12.1.toNat (TItem.mk y67.1 e13.Places e13.Long e13.Parts)).set y12.1.toNat (TItem.mk y67.1 e13.Places y68.1 e13.Parts)) ((xg4.set y12.1.toNat ((TItem.mk y67.1 e13.Places e13.Long e13.Parts), ge13)).set y12.1.toNat ((TItem.mk y67.1 e13.Places y68.1 e13.Parts), ge13))) (.imp (.and (.ro 0 rfl) (.imp (.ro 8 rfl) (fun _ h => (Lk.at_ h (getI_spec he13G).2)))) (fun _ h => Lk.set h.1 h.2)) ?_
                                refine r_ste (k := 8) (o := 2) (vs := [.int .i64 y68.1]) ty3 rfl rfl rfl rfl rfl rfl rfl (set_he (getI_spec he13G).2) ((TItem.mk y67.1 e13.Places y68.1 e13.Parts), ge13) rfl rfl ?_
                                refine lj_nil ?_
                                refine cnI _ _ (sof2 rfl rfl (fun _ h => h.picks [7, 8, 8, 8] rfl)) ?_
                                refine at_take2 28 rfl (by kernel_rfl) (by kernel_rfl) (by kernel_rfl) (fun _ h => h.picks [0, 1, 1, 1] rfl) rfl rfl (p_ncs rfl hp79) (fun _ h => h.picks [7, 8, 8, 8] rfl) ?_
                                refine at_take2 29 rfl (by kernel_rfl) (by kernel_rfl) (by kernel_rfl) (fun _ h => h.picks [0, 1, 1, 1] rfl) rfl rfl (p_fas fl63_3 rfl hp79) (fun _ h => h.picks [7, 8, 8, 8] rfl) ?_
                                refine at_each (rs := [30]) (by kernel_rfl) (by decide) ?_
                                refine (.cons rfl (fun I cnI => ?_) .nil)
                                · refine r_fz 4 rfl ?_
                                  refine r_fact (F := Lk N63 (((y2.1.Items.set y12.1.toNat (TItem.mk y67.1 e13.Places e13.Long e13.Parts)).set y12.1.toNat (TItem.mk y67.1 e13.Places y68.1 e13.Parts)).set y12.1.toNat (TItem.mk y67.1 e13.Places y68.1 q74)) (((xg4.set y12.1.toNat ((TItem.mk y67.1 e13.Places e13.Long e13.Parts), ge13)).set y12.1.toNat ((TItem.mk y67.1 e13.Places y68.1 e13.Parts), ge13)).set y12.1.toNat ((TItem.mk y67.1 e13.Places y68.1 q74), s92))) (.imp (.and (.ro 1 rfl) (.ro 0 rfl)) (fun _ h => Lk.set h.1 h.2)) ?_
                                  refine r_ste (k := 9) (o := 3) (vs := [s92.v]) ty49 rfl rfl rfl rfl rfl rfl rfl (set_he (set_he (getI_spec he13G).2)) ((TItem.mk y67.1 e13.Places y68.1 q74), s92) rfl rfl ?_
                                  refine lj_nil ?_
                                  refine cnI _ _ (sof2 rfl rfl (fun _ h => h.picks [8, 9, 9, 9] rfl)) ?_
                                  refine at_done (by kernel_rfl) ?_
                                  refine nj_blk ?_
                                  refine nj_seq ?_
                                  refine cj_seq ?_
                                  refine cj_reg ?_
                                  refine lp rfl (p_lbw ty28 rfl (j := 8) rfl rfl) ?_
                                  refine r_sb (vs := [s3.v, .int .i64 y2.1.Change, .int .i64 y2.1.Clap, .int .i64 y2.1.Break, .int .i64 y2.1.Half]) (j := 11) ty28 rfl rfl rfl rfl rfl rfl rfl ?_
                                  refine lj_seq ?_
                                  obtain rfl := Option.some.inj hm
                                  exact cj_rt (s3, (((xg4.set y12.1.toNat ((TItem.mk y67.1 e13.Places e13.Long e13.Parts), ge13)).set y12.1.toNat ((TItem.mk y67.1 e13.Places y68.1 e13.Parts), ge13)).set y12.1.toNat ((TItem.mk y67.1 e13.Places y68.1 q74), s92))) [9, 0, 4] Tryd.results6 (.agg (k := 11) ty28 rfl rfl rfl .nil) rfl rfl
                · refine r_bs R9 [(ByteArray.mk [122, 122].toArray), ByteArray.empty, (ByteArray.mk [97, 108, 116, 111].toArray)] rfl rfl rfl (fun _ => by kernel_rfl) rfl (fun s96 => ?_)
                  refine lj_nil ?_
                  refine cnI _ _ (sof1 rfl rfl (fun _ h => h.picks [3, 3, 3, 3, 3] rfl)) ?_
                  refine at_each (rs := [11]) (by kernel_rfl) (by decide) ?_
                  refine (.cons rfl (fun I cnI => ?_) .nil)
                  · refine r_call [1] cf42 rfl rfl (ok_gleemake_Stream_Odd b0_ s0_0_ a0_0 y67.2 1 86400000 hy68) rfl rfl (.cons (.ro 6 rfl) .nil) (fun _ => rfl) rfl (fun _ => ?_)
                    refine lj_nil ?_
                    refine cnI _ _ (sof1 rfl rfl (fun _ h => h.picks [3, 3, 3, 3, 3] rfl)) ?_
                    refine at_each (rs := [16]) (by kernel_rfl) (by decide) ?_
                    refine (.cons rfl (fun I cnI => ?_) .nil)
                    · refine r_call [] cf43 rfl rfl (ok_slices_Clone_string_string ge13 e13.Parts hy69) rfl rfl (.cons (.imp (.ro 5 rfl) (fun _ h => (Lk.at_ h (getI_spec he13G).2))) .nil) (fun _ => rfl) rfl (fun s97 => ?_)
                      refine lj_nil ?_
                      refine cnI _ _ (sof1 rfl rfl (fun _ h => h.picks [4, 4, 4, 4, 4] rfl)) ?_
                      refine at_each (rs := [19]) (by kernel_rfl) (by decide) ?_
                      refine (.cons rfl (fun I cnI => ?_) .nil)
                      · refine r_call [1] cf30 rfl rfl (ok_gleemake_Stream_Some b0_ s0_0_ a0_0 y68.2 s96 [(ByteArray.mk [122, 122].toArray), ByteArray.empty, (ByteArray.mk [97, 108, 116, 111].toArray)] hy72) rfl rfl (.cons (.ro 7 rfl) (.cons (.row 1 rfl) .nil)) (fun _ => rfl) rfl (fun _ => ?_)
                        refine lj_nil ?_
                        refine cnI _ _ (sof1 rfl rfl (fun _ h => h.picks [4, 4, 4, 4, 4] rfl)) ?_
                        refine at_each (rs := [20]) (by kernel_rfl) (by decide) ?_
                        refine (.cons rfl (fun I cnI => ?_) .nil)
                        · refine r_bs R9 [y72.1] rfl rfl rfl (fun _ => by kernel_rfl) rfl (fun s98 => ?_)
                          refine lj_nil ?_
                          refine cnI _ _ (sof1 rfl rfl (fun _ h => h.picks [5, 5, 5, 5, 5] rfl)) ?_
                          refine at_each (rs := [21]) (by kernel_rfl) (by decide) ?_
                          refine (.cons rfl (fun I cnI => ?_) .nil)
                          · refine r_app (k := 2) Tryd.underlying49 ty9 rfl rfl rfl rfl (.row 0 rfl) hq74 rfl (fun s99 => ?_)
                            refine lj_nil ?_
                            refine cnI _ _ (sof1 rfl rfl (fun _ h => h.picks [5, 5, 5, 5, 5] rfl)) ?_
                            refine at_take2 22 rfl (by kernel_rfl) (by kernel_rfl) (by kernel_rfl) (fun _ h => h.picks [0, 1, 1, 1] rfl) rfl rfl (p_ncs rfl hp79) (fun _ h => h.picks [5, 6, 6, 6] rfl) ?_
                            refine at_take2 23 rfl (by kernel_rfl) (by kernel_rfl) (by kernel_rfl) (fun _ h => h.picks [0, 1, 1, 1] rfl) rfl rfl (p_fas fl63_0 rfl hp79) (fun _ h => h.picks [5, 6, 6, 6] rfl) ?_
                            refine at_each (rs := [24]) (by kernel_rfl) (by decide) ?_
                            refine (.cons rfl (fun I cnI => ?_) .nil)
                            · refine r_fact (F := Lk N63 (y2.1.Items.set y12.1.toNat (TItem.mk y67.1 e13.Places e13.Long e13.Parts)) (xg4.set y12.1.toNat ((TItem.mk y67.1 e13.Places e13.Long e13.Parts), ge13))) (.imp (.and (.ro 7 rfl) (.imp (.ro 7 rfl) (fun _ h => (Lk.at_ h (getI_spec he13G).2)))) (fun _ h => Lk.set h.1 h.2)) ?_
                              refine r_ste (k := 7) (o := 0) (vs := [.string y67.1]) ty9 rfl rfl rfl rfl rfl rfl rfl (getI_spec he13G).2 ((TItem.mk y67.1 e13.Places e13.Long e13.Parts), ge13) rfl rfl ?_
                              refine lj_nil ?_
                              refine cnI _ _ (sof2 rfl rfl (fun _ h => h.picks [6, 7, 7, 7] rfl)) ?_
                              refine at_take2 25 rfl (by kernel_rfl) (by kernel_rfl) (by kernel_rfl) (fun _ h => h.picks [0, 1, 1, 1] rfl) rfl rfl (p_ncs rfl hp79) (fun _ h => h.picks [6, 7, 7, 7] rfl) ?_
                              refine at_take2 26 rfl (by kernel_rfl) (by kernel_rfl) (by kernel_rfl) (fun _ h => h.picks [0, 1, 1, 1] rfl) rfl rfl (p_fas fl63_2 rfl hp79) (fun _ h => h.picks [6, 7, 7, 7] rfl) ?_
                              refine at_each (rs := [27]) (by kernel_rfl) (by decide) ?_
                              refine (.cons rfl (fun I cnI => ?_) .nil)
                              · refine r_fact (F := Lk N63 ((y2.1.Items.set y12.1.toNat (TItem.mk y67.1 e13.Places e13.Long e13.Parts)).set y12.1.toNat (TItem.mk y67.1 e13.Places y68.1 e13.Parts)) ((xg4.set y12.1.toNat ((TItem.mk y67.1 e13.Places e13.Long e13.Parts), ge13)).set y12.1.toNat ((TItem.mk y67.1 e13.Places y68.1 e13.Parts), ge13))) (.imp (.and (.ro 0 rfl) (.imp (.ro 8 rfl) (fun _ h => (Lk.at_ h (getI_spec he13G).2)))) (fun _ h => Lk.set h.1 h.2)) ?_
                                refine r_ste (k := 8) (o := 2) (vs := [.int .i64 y68.1]) ty3 rfl rfl rfl rfl rfl rfl rfl (set_he (getI_spec he13G).2) ((TItem.mk y67.1 e13.Places y68.1 e13.Parts), ge13) rfl rfl ?_
                                refine lj_nil ?_
                                refine cnI _ _ (sof2 rfl rfl (fun _ h => h.picks [7, 8, 8, 8] rfl)) ?_
                                refine at_take2 28 rfl (by kernel_rfl) (by kernel_rfl) (by kernel_rfl) (fun _ h => h.picks [0, 1, 1, 1] rfl) rfl rfl (p_ncs rfl hp79) (fun _ h => h.picks [7, 8, 8, 8] rfl) ?_
                                refine at_take2 29 rfl (by kernel_rfl) (by kernel_rfl) (by kernel_rfl) (fun _ h => h.picks [0, 1, 1, 1] rfl) rfl rfl (p_fas fl63_3 rfl hp79) (fun _ h => h.picks [7, 8, 8, 8] rfl) ?_
                                refine at_each (rs := [30]) (by kernel_rfl) (by decide) ?_
                                refine (.cons rfl (fun I cnI => ?_) .nil)
                                · refine r_fz 4 rfl ?_
                                  refine r_fact (F := Lk N63 (((y2.1.Items.set y12.1.toNat (TItem.mk y67.1 e13.Places e13.Long e13.Parts)).set y12.1.toNat (TItem.mk y67.1 e13.Places y68.1 e13.Parts)).set y12.1.toNat (TItem.mk y67.1 e13.Places y68.1 q74)) (((xg4.set y12.1.toNat ((TItem.mk y67.1 e13.Places e13.Long e13.Parts), ge13)).set y12.1.toNat ((TItem.mk y67.1 e13.Places y68.1 e13.Parts), ge13)).set y12.1.toNat ((TItem.mk y67.1 e13.Places y68.1 q74), s99))) (.imp (.and (.ro 1 rfl) (.ro 0 rfl)) (fun _ h => Lk.set h.1 h.2)) ?_
                                  refine r_ste (k := 9) (o := 3) (vs := [s99.v]) ty49 rfl rfl rfl rfl rfl rfl rfl (set_he (set_he (getI_spec he13G).2)) ((TItem.mk y67.1 e13.Places y68.1 q74), s99) rfl rfl ?_
                                  refine lj_nil ?_
                                  refine cnI _ _ (sof2 rfl rfl (fun _ h => h.picks [8, 9, 9, 9] rfl)) ?_
                                  refine at_done (by kernel_rfl) ?_
                                  refine nj_blk ?_
                                  refine nj_seq ?_
                                  refine cj_seq ?_
                                  refine cj_reg ?_
                                  refine lp rfl (p_lbw ty28 rfl (j := 8) rfl rfl) ?_
                                  refine r_sb (vs := [s3.v, .int .i64 y2.1.Change, .int .i64 y2.1.Clap, .int .i64 y2.1.Break, .int .i64 y2.1.Half]) (j := 11) ty28 rfl rfl rfl rfl rfl rfl rfl ?_
                                  refine lj_seq ?_
                                  obtain rfl := Option.some.inj hm
                                  exact cj_rt (s3, (((xg4.set y12.1.toNat ((TItem.mk y67.1 e13.Places e13.Long e13.Parts), ge13)).set y12.1.toNat ((TItem.mk y67.1 e13.Places y68.1 e13.Parts), ge13)).set y12.1.toNat ((TItem.mk y67.1 e13.Places y68.1 q74), s99))) [9, 0, 4] Tryd.results6 (.agg (k := 11) ty28 rfl rfl rfl .nil) rfl rfl
              · refine r_bs R9 [(ByteArray.mk [122, 122].toArray), ByteArray.empty, (ByteArray.mk [97, 108, 116, 111].toArray)] rfl rfl rfl (fun _ => by kernel_rfl) rfl (fun s103 => ?_)
                refine lj_nil ?_
                refine cnI _ _ (sof1 rfl rfl (fun _ h => h.picks [3, 3, 3, 3, 3] rfl)) ?_
                refine at_each (rs := [9]) (by kernel_rfl) (by decide) ?_
                refine (.cons rfl (fun I cnI => ?_) .nil)
                · refine r_call [2] cf30 rfl rfl (ok_gleemake_Stream_Some b0_ s0_0_ a0_0 y12.2 s81 [e13.Key, ByteArray.empty, (ByteArray.mk [97].toArray)] hy67) rfl rfl (.cons (.ro 6 rfl) (.cons (.row 1 rfl) .nil)) (fun _ => rfl) rfl (fun _ => ?_)
                  refine lj_nil ?_
                  refine cnI _ _ (sof1 rfl rfl (fun _ h => h.picks [3, 3, 3, 3, 3] rfl)) ?_
                  refine at_each (rs := [11]) (by kernel_rfl) (by decide) ?_
                  refine (.cons rfl (fun I cnI => ?_) .nil)
                  · refine r_call [0] cf42 rfl rfl (ok_gleemake_Stream_Odd b0_ s0_0_ a0_0 y67.2 1 86400000 hy68) rfl rfl (.cons (.ro 6 rfl) .nil) (fun _ => rfl) rfl (fun _ => ?_)
                    refine lj_nil ?_
                    refine cnI _ _ (sof1 rfl rfl (fun _ h => h.picks [3, 3, 3, 3, 3] rfl)) ?_
                    refine at_each (rs := [16]) (by kernel_rfl) (by decide) ?_
                    refine (.cons rfl (fun I cnI => ?_) .nil)
                    · refine r_call [] cf43 rfl rfl (ok_slices_Clone_string_string ge13 e13.Parts hy69) rfl rfl (.cons (.imp (.ro 5 rfl) (fun _ h => (Lk.at_ h (getI_spec he13G).2))) .nil) (fun _ => rfl) rfl (fun s104 => ?_)
                      refine lj_nil ?_
                      refine cnI _ _ (sof1 rfl rfl (fun _ h => h.picks [4, 4, 4, 4, 4] rfl)) ?_
                      refine at_each (rs := [19]) (by kernel_rfl) (by decide) ?_
                      refine (.cons rfl (fun I cnI => ?_) .nil)
                      · refine r_call [1] cf30 rfl rfl (ok_gleemake_Stream_Some b0_ s0_0_ a0_0 y68.2 s103 [(ByteArray.mk [122, 122].toArray), ByteArray.empty, (ByteArray.mk [97, 108, 116, 111].toArray)] hy72) rfl rfl (.cons (.ro 7 rfl) (.cons (.row 1 rfl) .nil)) (fun _ => rfl) rfl (fun _ => ?_)
                        refine lj_nil ?_
                        refine cnI _ _ (sof1 rfl rfl (fun _ h => h.picks [4, 4, 4, 4, 4] rfl)) ?_
                        refine at_each (rs := [20]) (by kernel_rfl) (by decide) ?_
                        refine (.cons rfl (fun I cnI => ?_) .nil)
                        · refine r_bs R9 [y72.1] rfl rfl rfl (fun _ => by kernel_rfl) rfl (fun s105 => ?_)
                          refine lj_nil ?_
                          refine cnI _ _ (sof1 rfl rfl (fun _ h => h.picks [5, 5, 5, 5, 5] rfl)) ?_
                          refine at_each (rs := [21]) (by kernel_rfl) (by decide) ?_
                          refine (.cons rfl (fun I cnI => ?_) .nil)
                          · refine r_app (k := 2) Tryd.underlying49 ty9 rfl rfl rfl rfl (.row 0 rfl) hq74 rfl (fun s106 => ?_)
                            refine lj_nil ?_
                            refine cnI _ _ (sof1 rfl rfl (fun _ h => h.picks [5, 5, 5, 5, 5] rfl)) ?_
                            refine at_take2 22 rfl (by kernel_rfl) (by kernel_rfl) (by kernel_rfl) (fun _ h => h.picks [0, 1, 1, 1] rfl) rfl rfl (p_ncs rfl hp79) (fun _ h => h.picks [5, 6, 6, 6] rfl) ?_
                            refine at_take2 23 rfl (by kernel_rfl) (by kernel_rfl) (by kernel_rfl) (fun _ h => h.picks [0, 1, 1, 1] rfl) rfl rfl (p_fas fl63_0 rfl hp79) (fun _ h => h.picks [5, 6, 6, 6] rfl) ?_
                            refine at_each (rs := [24]) (by kernel_rfl) (by decide) ?_
                            refine (.cons rfl (fun I cnI => ?_) .nil)
                            · refine r_fact (F := Lk N63 (y2.1.Items.set y12.1.toNat (TItem.mk y67.1 e13.Places e13.Long e13.Parts)) (xg4.set y12.1.toNat ((TItem.mk y67.1 e13.Places e13.Long e13.Parts), ge13))) (.imp (.and (.ro 7 rfl) (.imp (.ro 7 rfl) (fun _ h => (Lk.at_ h (getI_spec he13G).2)))) (fun _ h => Lk.set h.1 h.2)) ?_
                              refine r_ste (k := 7) (o := 0) (vs := [.string y67.1]) ty9 rfl rfl rfl rfl rfl rfl rfl (getI_spec he13G).2 ((TItem.mk y67.1 e13.Places e13.Long e13.Parts), ge13) rfl rfl ?_
                              refine lj_nil ?_
                              refine cnI _ _ (sof2 rfl rfl (fun _ h => h.picks [6, 7, 7, 7] rfl)) ?_
                              refine at_take2 25 rfl (by kernel_rfl) (by kernel_rfl) (by kernel_rfl) (fun _ h => h.picks [0, 1, 1, 1] rfl) rfl rfl (p_ncs rfl hp79) (fun _ h => h.picks [6, 7, 7, 7] rfl) ?_
                              refine at_take2 26 rfl (by kernel_rfl) (by kernel_rfl) (by kernel_rfl) (fun _ h => h.picks [0, 1, 1, 1] rfl) rfl rfl (p_fas fl63_2 rfl hp79) (fun _ h => h.picks [6, 7, 7, 7] rfl) ?_
                              refine at_each (rs := [27]) (by kernel_rfl) (by decide) ?_
                              refine (.cons rfl (fun I cnI => ?_) .nil)
                              · refine r_fact (F := Lk N63 ((y2.1.Items.set y12.1.toNat (TItem.mk y67.1 e13.Places e13.Long e13.Parts)).set y12.1.toNat (TItem.mk y67.1 e13.Places y68.1 e13.Parts)) ((xg4.set y12.1.toNat ((TItem.mk y67.1 e13.Places e13.Long e13.Parts), ge13)).set y12.1.toNat ((TItem.mk y67.1 e13.Places y68.1 e13.Parts), ge13))) (.imp (.and (.ro 0 rfl) (.imp (.ro 8 rfl) (fun _ h => (Lk.at_ h (getI_spec he13G).2)))) (fun _ h => Lk.set h.1 h.2)) ?_
                                refine r_ste (k := 8) (o := 2) (vs := [.int .i64 y68.1]) ty3 rfl rfl rfl rfl rfl rfl rfl (set_he (getI_spec he13G).2) ((TItem.mk y67.1 e13.Places y68.1 e13.Parts), ge13) rfl rfl ?_
                                refine lj_nil ?_
                                refine cnI _ _ (sof2 rfl rfl (fun _ h => h.picks [7, 8, 8, 8] rfl)) ?_
                                refine at_take2 28 rfl (by kernel_rfl) (by kernel_rfl) (by kernel_rfl) (fun _ h => h.picks [0, 1, 1, 1] rfl) rfl rfl (p_ncs rfl hp79) (fun _ h => h.picks [7, 8, 8, 8] rfl) ?_
                                refine at_take2 29 rfl (by kernel_rfl) (by kernel_rfl) (by kernel_rfl) (fun _ h => h.picks [0, 1, 1, 1] rfl) rfl rfl (p_fas fl63_3 rfl hp79) (fun _ h => h.picks [7, 8, 8, 8] rfl) ?_
                                refine at_each (rs := [30]) (by kernel_rfl) (by decide) ?_
                                refine (.cons rfl (fun I cnI => ?_) .nil)
                                · refine r_fz 4 rfl ?_
                                  refine r_fact (F := Lk N63 (((y2.1.Items.set y12.1.toNat (TItem.mk y67.1 e13.Places e13.Long e13.Parts)).set y12.1.toNat (TItem.mk y67.1 e13.Places y68.1 e13.Parts)).set y12.1.toNat (TItem.mk y67.1 e13.Places y68.1 q74)) (((xg4.set y12.1.toNat ((TItem.mk y67.1 e13.Places e13.Long e13.Parts), ge13)).set y12.1.toNat ((TItem.mk y67.1 e13.Places y68.1 e13.Parts), ge13)).set y12.1.toNat ((TItem.mk y67.1 e13.Places y68.1 q74), s106))) (.imp (.and (.ro 1 rfl) (.ro 0 rfl)) (fun _ h => Lk.set h.1 h.2)) ?_
                                  refine r_ste (k := 9) (o := 3) (vs := [s106.v]) ty49 rfl rfl rfl rfl rfl rfl rfl (set_he (set_he (getI_spec he13G).2)) ((TItem.mk y67.1 e13.Places y68.1 q74), s106) rfl rfl ?_
                                  refine lj_nil ?_
                                  refine cnI _ _ (sof2 rfl rfl (fun _ h => h.picks [8, 9, 9, 9] rfl)) ?_
                                  refine at_done (by kernel_rfl) ?_
                                  refine nj_blk ?_
                                  refine nj_seq ?_
                                  refine cj_seq ?_
                                  refine cj_reg ?_
                                  refine lp rfl (p_lbw ty28 rfl (j := 8) rfl rfl) ?_
                                  refine r_sb (vs := [s3.v, .int .i64 y2.1.Change, .int .i64 y2.1.Clap, .int .i64 y2.1.Break, .int .i64 y2.1.Half]) (j := 11) ty28 rfl rfl rfl rfl rfl rfl rfl ?_
                                  refine lj_seq ?_
                                  obtain rfl := Option.some.inj hm
                                  exact cj_rt (s3, (((xg4.set y12.1.toNat ((TItem.mk y67.1 e13.Places e13.Long e13.Parts), ge13)).set y12.1.toNat ((TItem.mk y67.1 e13.Places y68.1 e13.Parts), ge13)).set y12.1.toNat ((TItem.mk y67.1 e13.Places y68.1 q74), s106))) [9, 0, 4] Tryd.results6 (.agg (k := 11) ty28 rfl rfl rfl .nil) rfl rfl
            · refine r_bs R9 [(ByteArray.mk [122, 122].toArray), ByteArray.empty, (ByteArray.mk [97, 108, 116, 111].toArray)] rfl rfl rfl (fun _ => by kernel_rfl) rfl (fun s110 => ?_)
              refine lj_nil ?_
              refine cnI _ _ (sof1 rfl rfl (fun _ h => h.picks [2, 2, 2, 2, 2] rfl)) ?_
              refine at_each (rs := [8]) (by kernel_rfl) (by decide) ?_
              refine (.cons rfl (fun I cnI => ?_) .nil)
              · refine r_bs R9 [e13.Key, ByteArray.empty, (ByteArray.mk [97].toArray)] rfl rfl rfl (fun _ => by kernel_rfl) rfl (fun s111 => ?_)
                refine lj_nil ?_
                refine cnI _ _ (sof1 rfl rfl (fun _ h => h.picks [3, 3, 3, 3, 3] rfl)) ?_
                refine at_each (rs := [9]) (by kernel_rfl) (by decide) ?_
                refine (.cons rfl (fun I cnI => ?_) .nil)
                · refine r_call [2] cf30 rfl rfl (ok_gleemake_Stream_Some b0_ s0_0_ a0_0 y12.2 s111 [e13.Key, ByteArray.empty, (ByteArray.mk [97].toArray)] hy67) rfl rfl (.cons (.ro 6 rfl) (.cons (.row 0 rfl) .nil)) (fun _ => rfl) rfl (fun _ => ?_)
                  refine lj_nil ?_
                  refine cnI _ _ (sof1 rfl rfl (fun _ h => h.picks [3, 3, 3, 3, 3] rfl)) ?_
                  refine at_each (rs := [11]) (by kernel_rfl) (by decide) ?_
                  refine (.cons rfl (fun I cnI => ?_) .nil)
                  · refine r_call [0] cf42 rfl rfl (ok_gleemake_Stream_Odd b0_ s0_0_ a0_0 y67.2 1 86400000 hy68) rfl rfl (.cons (.ro 6 rfl) .nil) (fun _ => rfl) rfl (fun _ => ?_)
                    refine lj_nil ?_
                    refine cnI _ _ (sof1 rfl rfl (fun _ h => h.picks [3, 3, 3, 3, 3] rfl)) ?_
                    refine at_each (rs := [16]) (by kernel_rfl) (by decide) ?_
                    refine (.cons rfl (fun I cnI => ?_) .nil)
                    · refine r_call [] cf43 rfl rfl (ok_slices_Clone_string_string ge13 e13.Parts hy69) rfl rfl (.cons (.imp (.ro 5 rfl) (fun _ h => (Lk.at_ h (getI_spec he13G).2))) .nil) (fun _ => rfl) rfl (fun s112 => ?_)
                      refine lj_nil ?_
                      refine cnI _ _ (sof1 rfl rfl (fun _ h => h.picks [4, 4, 4, 4, 4] rfl)) ?_
                      refine at_each (rs := [19]) (by kernel_rfl) (by decide) ?_
                      refine (.cons rfl (fun I cnI => ?_) .nil)
                      · refine r_call [1] cf30 rfl rfl (ok_gleemake_Stream_Some b0_ s0_0_ a0_0 y68.2 s110 [(ByteArray.mk [122, 122].toArray), ByteArray.empty, (ByteArray.mk [97, 108, 116, 111].toArray)] hy72) rfl rfl (.cons (.ro 7 rfl) (.cons (.row 2 rfl) .nil)) (fun _ => rfl) rfl (fun _ => ?_)
                        refine lj_nil ?_
                        refine cnI _ _ (sof1 rfl rfl (fun _ h => h.picks [4, 4, 4, 4, 4] rfl)) ?_
                        refine at_each (rs := [20]) (by kernel_rfl) (by decide) ?_
                        refine (.cons rfl (fun I cnI => ?_) .nil)
                        · refine r_bs R9 [y72.1] rfl rfl rfl (fun _ => by kernel_rfl) rfl (fun s113 => ?_)
                          refine lj_nil ?_
                          refine cnI _ _ (sof1 rfl rfl (fun _ h => h.picks [5, 5, 5, 5, 5] rfl)) ?_
                          refine at_each (rs := [21]) (by kernel_rfl) (by decide) ?_
                          refine (.cons rfl (fun I cnI => ?_) .nil)
                          · refine r_app (k := 2) Tryd.underlying49 ty9 rfl rfl rfl rfl (.row 0 rfl) hq74 rfl (fun s114 => ?_)
                            refine lj_nil ?_
                            refine cnI _ _ (sof1 rfl rfl (fun _ h => h.picks [5, 5, 5, 5, 5] rfl)) ?_
                            refine at_take2 22 rfl (by kernel_rfl) (by kernel_rfl) (by kernel_rfl) (fun _ h => h.picks [0, 1, 1, 1] rfl) rfl rfl (p_ncs rfl hp79) (fun _ h => h.picks [5, 6, 6, 6] rfl) ?_
                            refine at_take2 23 rfl (by kernel_rfl) (by kernel_rfl) (by kernel_rfl) (fun _ h => h.picks [0, 1, 1, 1] rfl) rfl rfl (p_fas fl63_0 rfl hp79) (fun _ h => h.picks [5, 6, 6, 6] rfl) ?_
                            refine at_each (rs := [24]) (by kernel_rfl) (by decide) ?_
                            refine (.cons rfl (fun I cnI => ?_) .nil)
                            · refine r_fact (F := Lk N63 (y2.1.Items.set y12.1.toNat (TItem.mk y67.1 e13.Places e13.Long e13.Parts)) (xg4.set y12.1.toNat ((TItem.mk y67.1 e13.Places e13.Long e13.Parts), ge13))) (.imp (.and (.ro 7 rfl) (.imp (.ro 7 rfl) (fun _ h => (Lk.at_ h (getI_spec he13G).2)))) (fun _ h => Lk.set h.1 h.2)) ?_
                              refine r_ste (k := 7) (o := 0) (vs := [.string y67.1]) ty9 rfl rfl rfl rfl rfl rfl rfl (getI_spec he13G).2 ((TItem.mk y67.1 e13.Places e13.Long e13.Parts), ge13) rfl rfl ?_
                              refine lj_nil ?_
                              refine cnI _ _ (sof2 rfl rfl (fun _ h => h.picks [6, 7, 7, 7] rfl)) ?_
                              refine at_take2 25 rfl (by kernel_rfl) (by kernel_rfl) (by kernel_rfl) (fun _ h => h.picks [0, 1, 1, 1] rfl) rfl rfl (p_ncs rfl hp79) (fun _ h => h.picks [6, 7, 7, 7] rfl) ?_
                              refine at_take2 26 rfl (by kernel_rfl) (by kernel_rfl) (by kernel_rfl) (fun _ h => h.picks [0, 1, 1, 1] rfl) rfl rfl (p_fas fl63_2 rfl hp79) (fun _ h => h.picks [6, 7, 7, 7] rfl) ?_
                              refine at_each (rs := [27]) (by kernel_rfl) (by decide) ?_
                              refine (.cons rfl (fun I cnI => ?_) .nil)
                              · refine r_fact (F := Lk N63 ((y2.1.Items.set y12.1.toNat (TItem.mk y67.1 e13.Places e13.Long e13.Parts)).set y12.1.toNat (TItem.mk y67.1 e13.Places y68.1 e13.Parts)) ((xg4.set y12.1.toNat ((TItem.mk y67.1 e13.Places e13.Long e13.Parts), ge13)).set y12.1.toNat ((TItem.mk y67.1 e13.Places y68.1 e13.Parts), ge13))) (.imp (.and (.ro 0 rfl) (.imp (.ro 8 rfl) (fun _ h => (Lk.at_ h (getI_spec he13G).2)))) (fun _ h => Lk.set h.1 h.2)) ?_
                                refine r_ste (k := 8) (o := 2) (vs := [.int .i64 y68.1]) ty3 rfl rfl rfl rfl rfl rfl rfl (set_he (getI_spec he13G).2) ((TItem.mk y67.1 e13.Places y68.1 e13.Parts), ge13) rfl rfl ?_
                                refine lj_nil ?_
                                refine cnI _ _ (sof2 rfl rfl (fun _ h => h.picks [7, 8, 8, 8] rfl)) ?_
                                refine at_take2 28 rfl (by kernel_rfl) (by kernel_rfl) (by kernel_rfl) (fun _ h => h.picks [0, 1, 1, 1] rfl) rfl rfl (p_ncs rfl hp79) (fun _ h => h.picks [7, 8, 8, 8] rfl) ?_
                                refine at_take2 29 rfl (by kernel_rfl) (by kernel_rfl) (by kernel_rfl) (fun _ h => h.picks [0, 1, 1, 1] rfl) rfl rfl (p_fas fl63_3 rfl hp79) (fun _ h => h.picks [7, 8, 8, 8] rfl) ?_
                                refine at_each (rs := [30]) (by kernel_rfl) (by decide) ?_
                                refine (.cons rfl (fun I cnI => ?_) .nil)
                                · refine r_fz 4 rfl ?_
                                  refine r_fact (F := Lk N63 (((y2.1.Items.set y12.1.toNat (TItem.mk y67.1 e13.Places e13.Long e13.Parts)).set y12.1.toNat (TItem.mk y67.1 e13.Places y68.1 e13.Parts)).set y12.1.toNat (TItem.mk y67.1 e13.Places y68.1 q74)) (((xg4.set y12.1.toNat ((TItem.mk y67.1 e13.Places e13.Long e13.Parts), ge13)).set y12.1.toNat ((TItem.mk y67.1 e13.Places y68.1 e13.Parts), ge13)).set y12.1.toNat ((TItem.mk y67.1 e13.Places y68.1 q74), s114))) (.imp (.and (.ro 1 rfl) (.ro 0 rfl)) (fun _ h => Lk.set h.1 h.2)) ?_
                                  refine r_ste (k := 9) (o := 3) (vs := [s114.v]) ty49 rfl rfl rfl rfl rfl rfl rfl (set_he (set_he (getI_spec he13G).2)) ((TItem.mk y67.1 e13.Places y68.1 q74), s114) rfl rfl ?_
                                  refine lj_nil ?_
                                  refine cnI _ _ (sof2 rfl rfl (fun _ h => h.picks [8, 9, 9, 9] rfl)) ?_
                                  refine at_done (by kernel_rfl) ?_
                                  refine nj_blk ?_
                                  refine nj_seq ?_
                                  refine cj_seq ?_
                                  refine cj_reg ?_
                                  refine lp rfl (p_lbw ty28 rfl (j := 8) rfl rfl) ?_
                                  refine r_sb (vs := [s3.v, .int .i64 y2.1.Change, .int .i64 y2.1.Clap, .int .i64 y2.1.Break, .int .i64 y2.1.Half]) (j := 11) ty28 rfl rfl rfl rfl rfl rfl rfl ?_
                                  refine lj_seq ?_
                                  obtain rfl := Option.some.inj hm
                                  exact cj_rt (s3, (((xg4.set y12.1.toNat ((TItem.mk y67.1 e13.Places e13.Long e13.Parts), ge13)).set y12.1.toNat ((TItem.mk y67.1 e13.Places y68.1 e13.Parts), ge13)).set y12.1.toNat ((TItem.mk y67.1 e13.Places y68.1 q74), s114))) [9, 0, 4] Tryd.results6 (.agg (k := 11) ty28 rfl rfl rfl .nil) rfl rfl
        · have hm := ifB_f hb hm
          refine cj_skip ?_
          refine nj_blk ?_
          refine nj_seq ?_
          refine cj_seq ?_
          refine cj_reg ?_
          refine lp rfl (p_lbw ty28 rfl (j := 1) rfl rfl) ?_
          refine r_sb (vs := [s3.v, .int .i64 y2.1.Change, .int .i64 y2.1.Clap, .int .i64 y2.1.Break, .int .i64 y2.1.Half]) (j := 4) ty28 rfl rfl rfl rfl rfl rfl rfl ?_
          refine lj_seq ?_
          obtain rfl := Option.some.inj hm
          exact cj_rt (s3, xg4) [2, 2, 0] Tryd.results6 (.agg (k := 4) ty28 rfl rfl rfl .nil) rfl rfl
  · have hm := ifB_f hb hm
    refine cj_skip ?_
    refine nj_seq ?_
    refine cj_seq ?_
    refine cj_reg ?_
    refine lp rfl (p_lbw ty28 rfl (j := 1) rfl rfl) ?_
    refine r_sb (vs := [s3.v, .int .i64 y2.1.Change, .int .i64 y2.1.Clap, .int .i64 y2.1.Break, .int .i64 y2.1.Half]) (j := 4) ty28 rfl rfl rfl rfl rfl rfl rfl ?_
    refine lj_seq ?_
    obtain rfl := Option.some.inj hm
    exact cj_rt (s3, xg4) [2, 2, 0] Tryd.results6 (.agg (k := 4) ty28 rfl rfl rfl .nil) rfl rfl
theorem ok_kit_IsKey (a0 : ByteArray) {r : Bool} (hm : m_kit_IsKey a0 = some r) :
    Ctr Tryd.prog 49 [.string a0].toArray ([] : List Ent) [] (X := Unit) (fun _ => .bool r) (fun _ => []) := by
  unfold m_kit_IsKey at hm
  refine ctr_mk (vs := [(0, .string a0)]) Tryd.func49 rfl Tryd.ntmps49 rfl ⟨rfl, trivial⟩ (fun w0 A => ?_)
  refine cj_seq ?_
  refine cj_reg ?_
  refine lp rfl (p_as rfl) ?_
  refine lj_seq ?_
  refine cj_seq ?_
  refine cj_reg ?_
  refine lp rfl (p_mv rfl) ?_
  refine lp rfl (p_nes rfl rfl) ?_
  refine lp rfl (p_mv rfl) ?_
  refine lcase (i := 5) (!(a0.toList == ByteArray.empty.toList)) rfl (fun hb => ?_) (fun hb => ?_)
  · have hm := ifB_t hb hm
    refine lg true rfl rfl rfl ?_
    refine lp rfl (p_mv rfl) ?_
    refine lg true rfl rfl rfl ?_
    refine lp rfl (p_lens Tryd.underlying9 rfl) ?_
    refine lg true rfl rfl rfl ?_
    refine lp rfl (p_leq rfl rfl) ?_
    refine lp rfl (p_pkt rfl rfl) ?_
    refine lp rfl (p_mv rfl) ?_
    refine lcase (i := 10) (decide ((a0.size : Int) ≤ 40)) rfl (fun hb => ?_) (fun hb => ?_)
    · have hm := ifB_t hb hm
      refine lg true rfl rfl rfl ?_
      refine lp rfl (p_mv rfl) ?_
      refine lg true rfl rfl rfl ?_
      obtain ⟨c1, hc1, hm⟩ := bindS hm
      refine lp rfl (p_stri Tryd.underlying9 rfl rfl hc1) ?_
      refine lg true rfl rfl rfl ?_
      obtain ⟨y2, hy2, hm⟩ := bindS hm
      refine r_call [] cf86 rfl rfl (ok_strings_IndexByte (ByteArray.mk [97, 98, 99, 100, 101, 102, 103, 104, 105, 106, 107, 108, 109, 110, 111, 112, 113, 114, 115, 116, 117, 118, 119, 120, 121, 122].toArray) c1 hy2) rfl rfl .nil (fun _ => rfl) rfl (fun _ => ?_)
      refine lg true rfl rfl rfl ?_
      refine lp rfl (p_geq rfl rfl) ?_
      refine lp rfl (p_pkt rfl rfl) ?_
      refine lp rfl (p_mv rfl) ?_
      refine lcase (i := 16) (decide (y2 ≥ 0)) rfl (fun hb => ?_) (fun hb => ?_)
      · have hm := ifB_t hb hm
        refine lg true rfl rfl rfl ?_
        refine lp rfl (p_mv rfl) ?_
        refine lg true rfl rfl rfl ?_
        obtain ⟨y3, hy3, hm⟩ := bindS hm
        refine r_call [] cf87 rfl rfl (ok_strings_Trim a0 (ByteArray.mk [97, 98, 99, 100, 101, 102, 103, 104, 105, 106, 107, 108, 109, 110, 111, 112, 113, 114, 115, 116, 117, 118, 119, 120, 121, 122, 48, 49, 50, 51, 52, 53, 54, 55, 56, 57, 45, 95].toArray) hy3) rfl rfl .nil (fun _ => rfl) rfl (fun _ => ?_)
        refine lg true rfl rfl rfl ?_
        refine lp rfl (p_eqs rfl rfl) ?_
        refine lp rfl (p_pkt rfl rfl) ?_
        refine lp rfl (p_as rfl) ?_
        refine lj_seq ?_
        obtain rfl := Option.some.inj hm
        exact cj_rt () [] Tryd.results49 (.tmp rfl .nil) rfl rfl
      · have hm := ifB_f hb hm
        refine ls true rfl rfl rfl rfl ?_
        refine ls true rfl rfl rfl rfl ?_
        refine ls true rfl rfl rfl rfl ?_
        refine lp rfl (p_pkf rfl rfl) ?_
        refine lp rfl (p_as rfl) ?_
        refine lj_seq ?_
        obtain rfl := Option.some.inj hm
        exact cj_rt () [] Tryd.results49 (.tmp rfl .nil) rfl rfl
    · have hm := ifB_f hb hm
      refine ls true rfl rfl rfl rfl ?_
      refine ls true rfl rfl rfl rfl ?_
      refine ls true rfl rfl rfl rfl ?_
      refine ls true rfl rfl rfl rfl ?_
      refine lp rfl (p_pkf rfl rfl) ?_
      refine lp rfl (p_mv rfl) ?_
      refine ls true rfl rfl rfl rfl ?_
      refine ls true rfl rfl rfl rfl ?_
      refine ls true rfl rfl rfl rfl ?_
      refine lp rfl (p_pkf rfl rfl) ?_
      refine lp rfl (p_as rfl) ?_
      refine lj_seq ?_
      obtain rfl := Option.some.inj hm
      exact cj_rt () [] Tryd.results49 (.tmp rfl .nil) rfl rfl
  · have hm := ifB_f hb hm
    refine ls true rfl rfl rfl rfl ?_
    refine ls true rfl rfl rfl rfl ?_
    refine ls true rfl rfl rfl rfl ?_
    refine lp rfl (p_pkf rfl rfl) ?_
    refine lp rfl (p_mv rfl) ?_
    refine ls true rfl rfl rfl rfl ?_
    refine ls true rfl rfl rfl rfl ?_
    refine ls true rfl rfl rfl rfl ?_
    refine ls true rfl rfl rfl rfl ?_
    refine lp rfl (p_pkf rfl rfl) ?_
    refine lp rfl (p_mv rfl) ?_
    refine ls true rfl rfl rfl rfl ?_
    refine ls true rfl rfl rfl rfl ?_
    refine ls true rfl rfl rfl rfl ?_
    refine lp rfl (p_pkf rfl rfl) ?_
    refine lp rfl (p_as rfl) ?_
    refine lj_seq ?_
    obtain rfl := Option.some.inj hm
    exact cj_rt () [] Tryd.results49 (.tmp rfl .nil) rfl rfl
theorem ok_concert_CheckItems_1 (a0 : TItem) (s0_3_ : SV) (b1_ : Nat) (a1_0 : ByteArray) (a1_1 : ByteArray) (a1_2 : Int) (s1_3_ : SV) (a1_3 : (List ByteArray)) {r : Bool} (hm : m_concert_CheckItems_1 a0 a1_0 a1_1 a1_2 a1_3 = some r) :
    Ctr Tryd.prog 51 [.agg [.string a0.Key, .string a0.Places, .int .i64 a0.Long, s0_3_.v].toArray, .pointer (some ⟨b1_, 0, none⟩)].toArray ([] : List Ent) [RdS R9 (SV.v s0_3_) a0.Parts, BoxS b1_ 63 [.string a1_0, .string a1_1, .int .i64 a1_2, s1_3_.v], RdS R9 (SV.v s1_3_) a1_3] (X := Unit) (fun _ => .bool r) (fun _ => []) := by
  unfold m_concert_CheckItems_1 at hm
  refine ctr_mk (vs := [(0, .agg [.string a0.Key, .string a0.Places, .int .i64 a0.Long, s0_3_.v].toArray), (1, .pointer (some ⟨b1_, 0, none⟩))]) Tryd.func51 rfl Tryd.ntmps51 rfl ⟨rfl, rfl, trivial⟩ (fun w0 A => ?_)
  refine cj_seq ?_
  refine cj_reg ?_
  refine r_bx (cs := [.string a0.Key, .string a0.Places, .int .i64 a0.Long, s0_3_.v]) rfl rfl rfl (fun b1 => ?_)
  refine lp rfl (p_as rfl) ?_
  refine lj_seq ?_
  refine cj_seq ?_
  refine cj_reg ?_
  refine lp rfl (p_fab fl63_0 rfl) ?_
  refine lp rfl (p_lbs ty9 rfl (j := 0) rfl rfl) ?_
  refine lp rfl (p_fab fl63_0 rfl) ?_
  refine lp rfl (p_rbs ty9 rfl (.ro 2 rfl) rfl) ?_
  refine lp rfl (p_eqs rfl rfl) ?_
  refine lp rfl (p_as rfl) ?_
  refine lj_seq ?_
  obtain rfl := Option.some.inj hm
  exact cj_rt () [] Tryd.results51 (.tmp rfl .nil) rfl rfl
theorem ok_slices_IndexFunc_api_Item_api_Item__concert_CheckItems_1 (s0_ : SV) (xg0_ : List (TItem × SV)) (a0 : (List TItem)) (b1_c0_ : Nat) (a1_c0_0 : ByteArray) (a1_c0_1 : ByteArray) (a1_c0_2 : Int) (s1_c0_3_ : SV) (a1_c0_3 : (List ByteArray)) {r : Int} (hm : m_slices_IndexFunc_api_Item_api_Item__concert_CheckItems_1 a0 a1_c0_0 a1_c0_1 a1_c0_2 a1_c0_3 = some r) :
    Ctr Tryd.prog 88 [s0_.v, .func (.func 51) #[] [.pointer (some ⟨b1_c0_, 0, none⟩)].toArray].toArray ([] : List Ent) [Lk N63 a0 xg0_, RdS N63.R (SV.v s0_) xg0_, BoxS b1_c0_ 63 [.string a1_c0_0, .string a1_c0_1, .int .i64 a1_c0_2, s1_c0_3_.v], RdS R9 (SV.v s1_c0_3_) a1_c0_3] (X := Unit) (fun _ => .int .i64 r) (fun _ => []) := by
  unfold m_slices_IndexFunc_api_Item_api_Item__concert_CheckItems_1 at hm
  refine ctr_mk (vs := [(0, s0_.v), (1, .func (.func 51) #[] [.pointer (some ⟨b1_c0_, 0, none⟩)].toArray)]) Tryd.func88 rfl Tryd.ntmps88 rfl ⟨rfl, rfl, trivial⟩ (fun w0 A => ?_)
  refine cj_pure (F := Lk N63 a0 xg0_) (.ro 0 rfl) (fun _ h => h.1) (fun hL0_ => ?_)
  refine cj_seq ?_
  refine cj_reg ?_
  refine lp rfl (p_as rfl) ?_
  refine lj_seq ?_
  refine cj_seq ?_
  refine cj_seq ?_
  refine cj_reg ?_
  refine lp rfl (p_mv rfl) ?_
  refine lp rfl (p_lenG hL0_ Tryd.underlying26 rfl (.ro 1 rfl)) ?_
  refine lp rfl (p_mv rfl) ?_
  refine lj_seq ?_
  obtain ⟨f7, hf7, hm⟩ := bindS hm
  refine cj_range (γ := Unit) (m := (a0.length : Int)) hf7 () (fun u4 g5 => [(0, s0_.v), (1, .func (.func 51) #[] [.pointer (some ⟨b1_c0_, 0, none⟩)].toArray), (4, .int .i64 0)]) (fun u4 g5 => Sat w0 (keys ([] : List Ent)) A [.ro (Lk N63 a0 xg0_), .ro (RdS N63.R (SV.v s0_) xg0_), .ro (BoxS b1_c0_ 63 [.string a1_c0_0, .string a1_c0_1, .int .i64 a1_c0_2, s1_c0_3_.v]), .ro (RdS R9 (SV.v s1_c0_3_) a1_c0_3)]) ⟨rfl, rfl, rfl, rfl, rfl, trivial⟩ (fun _ h => h.picks [0, 0, 0, 0] rfl) (nat_lt _) (fun _ h => by have h1 := (FactAt.get (.ro 1 rfl) h).1; rw [lk_len hL0_] at h1; exact h1) (fun _ _ => ⟨rfl, rfl, rfl, rfl⟩) ⟨rfl, rfl, rfl, rfl, rfl⟩ rfl rfl rfl (fun u4 g5 e => ?_) (fun aftk6 i1 x2 u4 g5 k6 hx3 hs J hJk6 hBk6 hX I cnk6 => ?_)
  · have hm := Flow.fin_b e hm
    refine nj_seq ?_
    refine cj_seq ?_
    refine cj_reg ?_
    refine lp rfl (p_as rfl) ?_
    refine lj_seq ?_
    obtain rfl := Option.some.inj hm
    exact cj_rt () [] Tryd.results88 (.tmp rfl .nil) rfl rfl
  · have hRk6 : ∀ t, k6 = .ret t → some t = some r := fun t e => by rw [hX t e] at hm; exact hm
    have hm := hs
    refine cj_seq ?_
    refine cj_reg ?_
    refine lp rfl (p_mv rfl) ?_
    refine lp rfl (p_as rfl) ?_
    refine lj_seq ?_
    refine cj_seq ?_
    refine cj_reg ?_
    refine lp rfl (p_mv rfl) ?_
    refine lp rfl (p_mv rfl) ?_
    refine lp rfl (p_mv rfl) ?_
    obtain ⟨gx2, hx3G⟩ := lk_get hL0_ hx3
    refine lp rfl (p_idx Tryd.underlying26 ty63 rfl rfl (.ro 1 rfl) (getI_nat.trans hx3G)) ?_
    refine lp rfl (p_leaN (cs := [.string x2.Key, .string x2.Places, .int .i64 x2.Long, gx2.v]) ty63 rfl (.ro 1 rfl) hx3G rfl) ?_
    obtain ⟨y8, hy8, hm⟩ := bindS hm
    refine r_call [] cf51 rfl rfl (ok_concert_CheckItems_1 x2 gx2 b1_c0_ a1_c0_0 a1_c0_1 a1_c0_2 s1_c0_3_ a1_c0_3 hy8) rfl rfl (.cons (.imp (.ro 0 rfl) (fun _ h => (Lk.at_ h hx3G))) (.cons (.ro 2 rfl) (.cons (.ro 3 rfl) .nil))) (fun _ => rfl) rfl (fun _ => ?_)
    refine lj_seq ?_
    refine cj_if (b := y8) rfl (fun hb => ?_) (fun hb => ?_)
    · have hm := ifB_t hb hm
      refine cj_seq ?_
      refine cj_reg ?_
      refine lp rfl (p_mv rfl) ?_
      refine lp rfl (p_as rfl) ?_
      refine lj_seq ?_
      have hm := hRk6 _ (Option.some.inj hm).symm
      obtain rfl := Option.some.inj hm
      exact cj_rt () [] Tryd.results88 (.tmp rfl .nil) rfl rfl
    · have hm := ifB_f hb hm
      refine cj_skip ?_
      refine nj_blk ?_
      exact cnk6 _ _ () () (hJk6 _ (Option.some.inj hm).symm) ⟨rfl, rfl, rfl, rfl, rfl, trivial⟩ (fun _ h => h.picks [0, 0, 0, 0] rfl)
theorem ok_slices_ContainsFunc_api_Item_api_Item__concert_CheckItems_1 (s0_ : SV) (xg0_ : List (TItem × SV)) (a0 : (List TItem)) (b1_c0_ : Nat) (a1_c0_0 : ByteArray) (a1_c0_1 : ByteArray) (a1_c0_2 : Int) (s1_c0_3_ : SV) (a1_c0_3 : (List ByteArray)) {r : Bool} (hm : m_slices_ContainsFunc_api_Item_api_Item__concert_CheckItems_1 a0 a1_c0_0 a1_c0_1 a1_c0_2 a1_c0_3 = some r) :
    Ctr Tryd.prog 50 [s0_.v, .func (.func 51) #[] [.pointer (some ⟨b1_c0_, 0, none⟩)].toArray].toArray ([] : List Ent) [Lk N63 a0 xg0_, RdS N63.R (SV.v s0_) xg0_, BoxS b1_c0_ 63 [.string a1_c0_0, .string a1_c0_1, .int .i64 a1_c0_2, s1_c0_3_.v], RdS R9 (SV.v s1_c0_3_) a1_c0_3] (X := Unit) (fun _ => .bool r) (fun _ => []) := by
  unfold m_slices_ContainsFunc_api_Item_api_Item__concert_CheckItems_1 at hm
  refine ctr_mk (vs := [(0, s0_.v), (1, .func (.func 51) #[] [.pointer (some ⟨b1_c0_, 0, none⟩)].toArray)]) Tryd.func50 rfl Tryd.ntmps50 rfl ⟨rfl, rfl, trivial⟩ (fun w0 A => ?_)
  refine cj_pure (F := Lk N63 a0 xg0_) (.ro 0 rfl) (fun _ h => h.1) (fun hL0_ => ?_)
  refine cj_seq ?_
  refine cj_reg ?_
  refine lp rfl (p_as rfl) ?_
  refine lj_seq ?_
  refine cj_seq ?_
  refine cj_reg ?_
  refine lp rfl (p_mv rfl) ?_
  refine lp rfl (p_mv rfl) ?_
  obtain ⟨y1, hy1, hm⟩ := bindS hm
  refine r_call [] cf88 rfl rfl (ok_slices_IndexFunc_api_Item_api_Item__concert_CheckItems_1 s0_ xg0_ a0 b1_c0_ a1_c0_0 a1_c0_1 a1_c0_2 s1_c0_3_ a1_c0_3 hy1) rfl rfl (.cons (.ro 0 rfl) (.cons (.ro 1 rfl) (.cons (.ro 2 rfl) (.cons (.ro 3 rfl) .nil)))) (fun _ => rfl) rfl (fun _ => ?_)
  refine lp rfl (p_geq rfl rfl) ?_
  refine lp rfl (p_as rfl) ?_
  refine lj_seq ?_
  obtain rfl := Option.some.inj hm
  exact cj_rt () [] Tryd.results50 (.tmp rfl .nil) rfl rfl
theorem ok_kit_Outside (a0 : Int) (a1 : Int) (a2 : Int) {r : Bool} (hm : m_kit_Outside a0 a1 a2 = some r) :
    Ctr Tryd.prog 52 [.int .i64 a0, .int .i64 a1, .int .i64 a2].toArray ([] : List Ent) [] (X := Unit) (fun _ => .bool r) (fun _ => []) := by
  unfold m_kit_Outside at hm
  refine ctr_mk (vs := [(0, .int .i64 a0), (1, .int .i64 a1), (2, .int .i64 a2)]) Tryd.func52 rfl Tryd.ntmps52 rfl ⟨rfl, rfl, rfl, trivial⟩ (fun w0 A => ?_)
  refine cj_seq ?_
  refine cj_reg ?_
  refine lp rfl (p_as rfl) ?_
  refine lj_seq ?_
  refine cj_seq ?_
  refine cj_reg ?_
  refine lp rfl (p_mv rfl) ?_
  refine lp rfl (p_mv rfl) ?_
  refine lp rfl (p_lss rfl rfl) ?_
  refine lp rfl (p_mv rfl) ?_
  refine lcase (i := 10) (decide (a0 < a1)) rfl (fun hb => ?_) (fun hb => ?_)
  · have hm := ifB_t hb hm
    refine ls false rfl rfl rfl rfl ?_
    refine ls false rfl rfl rfl rfl ?_
    refine ls false rfl rfl rfl rfl ?_
    refine lp rfl (p_pkt rfl rfl) ?_
    refine lp rfl (p_as rfl) ?_
    refine lj_seq ?_
    obtain rfl := Option.some.inj hm
    exact cj_rt () [] Tryd.results52 (.tmp rfl .nil) rfl rfl
  · have hm := ifB_f hb hm
    refine lg false rfl rfl rfl ?_
    refine lp rfl (p_mv rfl) ?_
    refine lg false rfl rfl rfl ?_
    refine lp rfl (p_mv rfl) ?_
    refine lg false rfl rfl rfl ?_
    refine lp rfl (p_gtr rfl rfl) ?_
    refine lp rfl (p_pkf rfl rfl) ?_
    refine lp rfl (p_as rfl) ?_
    refine lj_seq ?_
    obtain rfl := Option.some.inj hm
    exact cj_rt () [] Tryd.results52 (.tmp rfl .nil) rfl rfl
theorem ok_concert_partsFault (s0_ : SV) (a0 : (List ByteArray)) {r : Int} (hm : m_concert_partsFault a0 = some r) :
    Ctr Tryd.prog 53 [s0_.v].toArray ([] : List Ent) [RdS R9 (SV.v s0_) a0] (X := Unit) (fun _ => .int .i64 r) (fun _ => []) := by
  unfold m_concert_partsFault at hm
  refine ctr_mk (vs := [(0, s0_.v)]) Tryd.func53 rfl Tryd.ntmps53 rfl ⟨rfl, trivial⟩ (fun w0 A => ?_)
  refine cj_seq ?_
  refine cj_reg ?_
  refine lp rfl (p_as rfl) ?_
  refine lj_seq ?_
  refine cj_seq ?_
  refine cj_seq ?_
  refine cj_reg ?_
  refine lp rfl (p_mv rfl) ?_
  refine lp rfl (p_len Tryd.underlying49 rfl (.ro 0 rfl)) ?_
  refine lp rfl (p_eql rfl rfl) ?_
  refine lj_seq ?_
  refine cj_if (b := (a0.length : Int) == 0) rfl (fun hb => ?_) (fun hb => ?_)
  · have hm := ifB_t hb hm
    refine cj_seq ?_
    refine cj_reg ?_
    refine lp rfl (p_as rfl) ?_
    refine lj_seq ?_
    obtain rfl := Option.some.inj hm
    exact cj_rt () [] Tryd.results53 (.tmp rfl .nil) rfl rfl
  · have hm := ifB_f hb hm
    refine cj_skip ?_
    refine nj_seq ?_
    refine cj_seq ?_
    refine cj_seq ?_
    refine cj_reg ?_
    refine lp rfl (p_mv rfl) ?_
    refine lp rfl (p_len Tryd.underlying49 rfl (.ro 0 rfl)) ?_
    refine lp rfl (p_gtr rfl rfl) ?_
    refine lj_seq ?_
    refine cj_if (b := decide ((a0.length : Int) > 12)) rfl (fun hb => ?_) (fun hb => ?_)
    · have hm := ifB_t hb hm
      refine cj_seq ?_
      refine cj_reg ?_
      refine lp rfl (p_as rfl) ?_
      refine lj_seq ?_
      obtain rfl := Option.some.inj hm
      exact cj_rt () [] Tryd.results53 (.tmp rfl .nil) rfl rfl
    · have hm := ifB_f hb hm
      refine cj_skip ?_
      refine nj_seq ?_
      refine cj_seq ?_
      refine cj_seq ?_
      refine cj_reg ?_
      refine lp rfl (p_mv rfl) ?_
      refine lp rfl (p_len Tryd.underlying49 rfl (.ro 0 rfl)) ?_
      refine lp rfl (p_mv rfl) ?_
      refine lj_seq ?_
      obtain ⟨f7, hf7, hm⟩ := bindS hm
      refine cj_range (γ := Unit) (m := (a0.length : Int)) hf7 () (fun u4 g5 => [(0, s0_.v), (2, .int .i64 0), (11, s0_.v)]) (fun u4 g5 => Sat w0 (keys ([] : List Ent)) A [.ro (RdS R9 (SV.v s0_) a0)]) ⟨rfl, rfl, rfl, rfl, rfl, trivial⟩ (fun _ h => h.picks [0] rfl) (nat_lt _) (fun _ h => (FactAt.get (.ro 0 rfl) h).1) (fun _ _ => ⟨rfl, rfl, rfl, rfl⟩) ⟨rfl, rfl, rfl, rfl, rfl⟩ rfl rfl rfl (fun u4 g5 e => ?_) (fun aftk6 i1 x2 u4 g5 k6 hx3 hs J hJk6 hBk6 hX I cnk6 => ?_)
      · have hm := Flow.fin_b e hm
        refine nj_seq ?_
        refine cj_seq ?_
        refine cj_reg ?_
        refine lp rfl (p_as rfl) ?_
        refine lj_seq ?_
        obtain rfl := Option.some.inj hm
        exact cj_rt () [] Tryd.results53 (.tmp rfl .nil) rfl rfl
      · have hRk6 : ∀ t, k6 = .ret t → some t = some r := fun t e => by rw [hX t e] at hm; exact hm
        have hm := hs
        refine cj_seq ?_
        refine cj_reg ?_
        refine lp rfl (p_mv rfl) ?_
        refine lp rfl (p_idx Tryd.underlying49 ty9 rfl rfl (.ro 0 rfl) (getI_nat.trans hx3)) ?_
        refine lp rfl (p_lde (o := 0) ty9 rfl rfl (.ro 0 rfl) hx3 rfl) ?_
        refine lp rfl (p_as rfl) ?_
        refine lp rfl (p_as rfl) ?_
        refine lj_seq ?_
        refine cj_seq ?_
        refine cj_seq ?_
        refine cj_reg ?_
        refine lp rfl (p_mv rfl) ?_
        obtain ⟨y8, hy8, hm⟩ := bindS hm
        refine r_call [] cf49 rfl rfl (ok_kit_IsKey x2 hy8) rfl rfl .nil (fun _ => rfl) rfl (fun _ => ?_)
        refine lp rfl (p_not rfl) ?_
        refine lj_seq ?_
        refine cj_if (b := !y8) rfl (fun hb => ?_) (fun hb => ?_)
        · have hm := ifB_t hb hm
          refine cj_seq ?_
          refine cj_reg ?_
          refine lp rfl (p_as rfl) ?_
          refine lj_seq ?_
          have hm := hRk6 _ (Option.some.inj hm).symm
          obtain rfl := Option.some.inj hm
          exact cj_rt () [] Tryd.results53 (.tmp rfl .nil) rfl rfl
        · have hm := ifB_f hb hm
          refine cj_skip ?_
          refine nj_seq ?_
          refine cj_seq ?_
          refine cj_reg ?_
          obtain ⟨k11, hk11, hm⟩ := bindS hm
          have hRk11 : ∀ t, k11 = .inr t → some t = some k6 := fun t e => by rw [e] at hm; exact hm
          refine lj_join (σ := Bool) (γ := Unit) (fun u9 => k11 = .inl u9) (fun u9 g10 => [(0, s0_.v), (2, .int .i64 0), (11, s0_.v), (12, .int .i64 (a0.length : Int)), (13, .int .i64 (i1 : Int)), (31, .bool u9)]) (fun u9 g10 => Sat w0 (keys ([] : List Ent)) A [.ro (RdS R9 (SV.v s0_) a0)]) (fun u9 g10 hq => ?_) (fun J cnk11 => ?_)
          · have hm := Sum.fin_l hq hm
            refine cj_if (b := u9) rfl (fun hb => ?_) (fun hb => ?_)
            · have hm := ifB_t hb hm
              refine cj_seq ?_
              refine cj_reg ?_
              refine lp rfl (p_as rfl) ?_
              refine lj_seq ?_
              have hm := hRk6 _ (Option.some.inj hm).symm
              obtain rfl := Option.some.inj hm
              exact cj_rt () [] Tryd.results53 (.tmp rfl .nil) rfl rfl
            · have hm := ifB_f hb hm
              refine cj_skip ?_
              refine nj_blk ?_
              exact cnk6 _ _ () () (hJk6 _ (Option.some.inj hm).symm) ⟨rfl, rfl, rfl, rfl, rfl, trivial⟩ (fun _ h => h.picks [0] rfl)
          · have hm := hk11
            refine lp rfl (p_mv rfl) ?_
            refine lp rfl (p_gtr rfl rfl) ?_
            refine lp rfl (p_mv rfl) ?_
            refine lcase (i := 23) (decide ((i1 : Int) > 0)) rfl (fun hb => ?_) (fun hb => ?_)
            · have hm := ifB_t hb hm
              refine lg true rfl rfl rfl ?_
              refine lp rfl (p_mv rfl) ?_
              refine lg true rfl rfl rfl ?_
              refine lp rfl (p_mv rfl) ?_
              refine lg true rfl rfl rfl ?_
              refine lp rfl (p_mv rfl) ?_
              refine lg true rfl rfl rfl ?_
              refine lp rfl (p_sub rfl rfl) ?_
              refine lg true rfl rfl rfl ?_
              obtain ⟨e12, he12, hm⟩ := bindS hm
              refine lp rfl (p_idx Tryd.underlying49 ty9 rfl rfl (.ro 0 rfl) he12) ?_
              refine lg true rfl rfl rfl ?_
              refine lp rfl (p_lde (o := 0) ty9 rfl rfl (.ro 0 rfl) (getI_spec he12).2 rfl) ?_
              refine lg true rfl rfl rfl ?_
              refine lp rfl (p_les rfl rfl) ?_
              refine lp rfl (p_pkt rfl rfl) ?_
              refine lj_nil ?_
              exact cnk11 _ _ (Op.bytesLess x2.toList e12.toList || x2.toList == e12.toList) () (Option.some.inj hm).symm ⟨rfl, rfl, rfl, rfl, rfl, rfl, trivial⟩ (fun _ h => h.picks [0] rfl)
            · have hm := ifB_f hb hm
              refine ls true rfl rfl rfl rfl ?_
              refine ls true rfl rfl rfl rfl ?_
              refine ls true rfl rfl rfl rfl ?_
              refine ls true rfl rfl rfl rfl ?_
              refine ls true rfl rfl rfl rfl ?_
              refine ls true rfl rfl rfl rfl ?_
              refine ls true rfl rfl rfl rfl ?_
              refine lp rfl (p_pkf rfl rfl) ?_
              refine lj_nil ?_
              exact cnk11 _ _ false () (Option.some.inj hm).symm ⟨rfl, rfl, rfl, rfl, rfl, rfl, trivial⟩ (fun _ h => h.picks [0] rfl)
theorem ok_concert_CheckItems (s0_ : SV) (xg0_ : List (TItem × SV)) (a0 : (List TItem)) {r : Int} (hm : m_concert_CheckItems a0 = some r) :
    Ctr Tryd.prog 16 [s0_.v].toArray ([] : List Ent) [Lk N63 a0 xg0_, RdS N63.R (SV.v s0_) xg0_] (X := Unit) (fun _ => .int .i64 r) (fun _ => []) := by
  unfold m_concert_CheckItems at hm
  refine ctr_mk (vs := [(0, s0_.v)]) Tryd.func16 rfl Tryd.ntmps16 rfl ⟨rfl, trivial⟩ (fun w0 A => ?_)
  refine cj_pure (F := Lk N63 a0 xg0_) (.ro 0 rfl) (fun _ h => h.1) (fun hL0_ => ?_)
  refine cj_seq ?_
  refine cj_reg ?_
  refine lp rfl (p_as rfl) ?_
  refine lj_seq ?_
  refine cj_seq ?_
  refine cj_seq ?_
  refine cj_reg ?_
  refine lp rfl (p_mv rfl) ?_
  refine lp rfl (p_lenG hL0_ Tryd.underlying26 rfl (.ro 1 rfl)) ?_
  refine lp rfl (p_gtr rfl rfl) ?_
  refine lj_seq ?_
  refine cj_if (b := decide ((a0.length : Int) > 60)) rfl (fun hb => ?_) (fun hb => ?_)
  · have hm := ifB_t hb hm
    refine cj_seq ?_
    refine cj_reg ?_
    refine lp rfl (p_as rfl) ?_
    refine lj_seq ?_
    obtain rfl := Option.some.inj hm
    exact cj_rt () [] Tryd.results16 (.tmp rfl .nil) rfl rfl
  · have hm := ifB_f hb hm
    refine cj_skip ?_
    refine nj_seq ?_
    refine cj_seq ?_
    refine cj_seq ?_
    refine cj_reg ?_
    refine lp rfl (p_mv rfl) ?_
    refine lp rfl (p_lenG hL0_ Tryd.underlying26 rfl (.ro 1 rfl)) ?_
    refine lp rfl (p_mv rfl) ?_
    refine lj_seq ?_
    obtain ⟨f7, hf7, hm⟩ := bindS hm
    refine cj_range (γ := Unit) (m := (a0.length : Int)) hf7 () (fun u4 g5 => [(0, s0_.v), (2, .int .i64 0), (9, s0_.v)]) (fun u4 g5 => Sat w0 (keys ([] : List Ent)) A [.ro (Lk N63 a0 xg0_), .ro (RdS N63.R (SV.v s0_) xg0_)]) ⟨rfl, rfl, rfl, rfl, rfl, trivial⟩ (fun _ h => h.picks [0, 0] rfl) (nat_lt _) (fun _ h => by have h1 := (FactAt.get (.ro 1 rfl) h).1; rw [lk_len hL0_] at h1; exact h1) (fun _ _ => ⟨rfl, rfl, rfl, rfl⟩) ⟨rfl, rfl, rfl, rfl, rfl⟩ rfl rfl rfl (fun u4 g5 e => ?_) (fun aftk6 i1 x2 u4 g5 k6 hx3 hs J hJk6 hBk6 hX I cnk6 => ?_)
    · have hm := Flow.fin_b e hm
      refine nj_seq ?_
      refine cj_seq ?_
      refine cj_reg ?_
      refine lp rfl (p_as rfl) ?_
      refine lj_seq ?_
      obtain rfl := Option.some.inj hm
      exact cj_rt () [] Tryd.results16 (.tmp rfl .nil) rfl rfl
    · have hRk6 : ∀ t, k6 = .ret t → some t = some r := fun t e => by rw [hX t e] at hm; exact hm
      have hm := hs
      refine cj_seq ?_
      refine cj_reg ?_
      refine lp rfl (p_mv rfl) ?_
      obtain ⟨gx2, hx3G⟩ := lk_get hL0_ hx3
      refine lp rfl (p_idx Tryd.underlying26 ty63 rfl rfl (.ro 1 rfl) (getI_nat.trans hx3G)) ?_
      refine lp rfl (p_leaN (cs := [.string x2.Key, .string x2.Places, .int .i64 x2.Long, gx2.v]) ty63 rfl (.ro 1 rfl) hx3G rfl) ?_
      refine r_al ty63 rfl (fun b8 => ?_)
      refine lp rfl (p_as rfl) ?_
      refine r_sb (vs := [.string x2.Key, .string x2.Places, .int .i64 x2.Long, gx2.v]) (j := 0) ty63 rfl rfl rfl rfl rfl rfl rfl ?_
      refine lj_seq ?_
      refine cj_seq ?_
      refine cj_blk ?_
      refine cj_seq ?_
      refine cj_reg ?_
      obtain ⟨k11, hk11, hm⟩ := bindS hm
      have hRk11 : ∀ t, k11 = .inr t → some t = some k6 := fun t e => by rw [e] at hm; exact hm
      refine lj_join (σ := Bool) (γ := Unit) (fun u9 => k11 = .inl u9) (fun u9 g10 => [(0, s0_.v), (2, .int .i64 0), (3, .int .i64 (i1 : Int)), (4, .pointer (some ⟨b8, 0, none⟩)), (9, s0_.v), (10, .int .i64 (a0.length : Int)), (11, .int .i64 (i1 : Int)), (16, .bool u9)]) (fun u9 g10 => Sat w0 (keys ([] : List Ent)) A [.box b8 63 [.string x2.Key, .string x2.Places, .int .i64 x2.Long, gx2.v], .ro (Lk N63 a0 xg0_), .ro (RdS N63.R (SV.v s0_) xg0_)]) (fun u9 g10 hq => ?_) (fun J cnk11 => ?_)
      · have hm := Sum.fin_l hq hm
        refine cj_if (b := u9) rfl (fun hb => ?_) (fun hb => ?_)
        · have hm := ifB_t hb hm
          refine cj_seq ?_
          refine cj_reg ?_
          refine lp rfl (p_as rfl) ?_
          refine lj_seq ?_
          have hm := hRk6 _ (Option.some.inj hm).symm
          obtain rfl := Option.some.inj hm
          exact cj_rt () [] Tryd.results16 (.tmp rfl .nil) rfl rfl
        · have hm := ifB_f hb hm
          refine cj_seq ?_
          refine cj_reg ?_
          refine lp rfl (p_mv rfl) ?_
          refine lp rfl (p_mv rfl) ?_
          obtain ⟨q14, hq14, hm⟩ := bindS hm
          obtain ⟨q14G, hq14G, hLq14, hsq14⟩ := lk_cut hL0_ hq14
          refine lp rfl (p_cut Tryd.underlying26 ty63 rfl rfl rfl rfl rfl (.ro 2 rfl) rfl rfl hq14G) ?_
          refine lp rfl (p_fn (cv := [.pointer (some ⟨b8, 0, none⟩)]) rfl) ?_
          obtain ⟨y15, hy15, hm⟩ := bindS hm
          refine r_call [] cf50 rfl rfl (ok_slices_ContainsFunc_api_Item_api_Item__concert_CheckItems_1 (s0_.sub N63.R.sz (0 : Int).toNat (i1 : Int).toNat) q14G q14 b8 x2.Key x2.Places x2.Long gx2 x2.Parts hy15) rfl rfl (.cons (.imp (.ro 1 rfl) (fun _ h => Lk.sub h hLq14 hsq14)) (.cons (.imp (.ro 2 rfl) (fun _ h => h.cut hq14G)) (.cons (.imp (.box 0 rfl) (fun _ h => h)) (.cons (.imp (.ro 1 rfl) (fun _ h => (Lk.at_ h hx3G))) .nil)))) (fun _ => rfl) rfl (fun _ => ?_)
          refine lp rfl (p_as rfl) ?_
          refine lj_seq ?_
          refine cj_if (b := y15) rfl (fun hb => ?_) (fun hb => ?_)
          · have hm := ifB_t hb hm
            refine cj_seq ?_
            refine cj_reg ?_
            refine lp rfl (p_as rfl) ?_
            refine lj_seq ?_
            have hm := hRk6 _ (Option.some.inj hm).symm
            obtain rfl := Option.some.inj hm
            exact cj_rt () [] Tryd.results16 (.tmp rfl .nil) rfl rfl
          · have hm := ifB_f hb hm
            refine cj_seq ?_
            refine cj_reg ?_
            refine lp rfl (p_fab fl63_2 rfl) ?_
            refine lp rfl (p_lbs ty3 rfl (j := 0) rfl rfl) ?_
            obtain ⟨y16, hy16, hm⟩ := bindS hm
            refine r_call [] cf52 rfl rfl (ok_kit_Outside x2.Long 1 86400000 hy16) rfl rfl .nil (fun _ => rfl) rfl (fun _ => ?_)
            refine lp rfl (p_as rfl) ?_
            refine lj_seq ?_
            refine cj_if (b := y16) rfl (fun hb => ?_) (fun hb => ?_)
            · have hm := ifB_t hb hm
              refine cj_seq ?_
              refine cj_reg ?_
              refine lp rfl (p_as rfl) ?_
              refine lj_seq ?_
              have hm := hRk6 _ (Option.some.inj hm).symm
              obtain rfl := Option.some.inj hm
              exact cj_rt () [] Tryd.results16 (.tmp rfl .nil) rfl rfl
            · have hm := ifB_f hb hm
              refine cj_skip ?_
              refine nj_blk ?_
              refine nj_seq ?_
              refine cj_seq ?_
              refine cj_reg ?_
              refine lp rfl (p_fab fl63_3 rfl) ?_
              refine lp rfl (p_lbs ty49 rfl (j := 0) rfl rfl) ?_
              obtain ⟨y17, hy17, hm⟩ := bindS hm
              refine r_call [] cf53 rfl rfl (ok_concert_partsFault gx2 x2.Parts hy17) rfl rfl (.cons (.imp (.ro 1 rfl) (fun _ h => (Lk.at_ h hx3G))) .nil) (fun _ => rfl) rfl (fun _ => ?_)
              refine lp rfl (p_as rfl) ?_
              refine lj_seq ?_
              refine cj_seq ?_
              refine cj_reg ?_
              refine lp rfl (p_mv rfl) ?_
              refine lp rfl (p_neq rfl rfl) ?_
              refine lj_seq ?_
              refine cj_if (b := y17 != 0) rfl (fun hb => ?_) (fun hb => ?_)
              · have hm := ifB_t hb hm
                refine cj_seq ?_
                refine cj_reg ?_
                refine lp rfl (p_mv rfl) ?_
                refine lp rfl (p_as rfl) ?_
                refine lj_seq ?_
                have hm := hRk6 _ (Option.some.inj hm).symm
                obtain rfl := Option.some.inj hm
                exact cj_rt () [] Tryd.results16 (.tmp rfl .nil) rfl rfl
              · have hm := ifB_f hb hm
                refine cj_skip ?_
                refine nj_blk ?_
                exact cnk6 _ _ () () (hJk6 _ (Option.some.inj hm).symm) ⟨rfl, rfl, rfl, rfl, rfl, trivial⟩ (fun _ h => h.picks [1, 1] rfl)
      · have hm := hk11
        refine lp rfl (p_fab fl63_0 rfl) ?_
        refine lp rfl (p_lbs ty9 rfl (j := 0) rfl rfl) ?_
        obtain ⟨y12, hy12, hm⟩ := bindS hm
        refine r_call [] cf49 rfl rfl (ok_kit_IsKey x2.Key hy12) rfl rfl .nil (fun _ => rfl) rfl (fun _ => ?_)
        refine lp rfl (p_not rfl) ?_
        refine lp rfl (p_mv rfl) ?_
        refine lcase (i := 21) (!y12) rfl (fun hb => ?_) (fun hb => ?_)
        · have hm := ifB_t hb hm
          refine ls false rfl rfl rfl rfl ?_
          refine ls false rfl rfl rfl rfl ?_
          refine ls false rfl rfl rfl rfl ?_
          refine ls false rfl rfl rfl rfl ?_
          refine lp rfl (p_pkt rfl rfl) ?_
          refine lp rfl (p_as rfl) ?_
          refine lj_nil ?_
          exact cnk11 _ _ true () (Option.some.inj hm).symm ⟨rfl, rfl, rfl, rfl, rfl, rfl, rfl, rfl, trivial⟩ (fun _ h => h.picks [0, 0, 0] rfl)
        · have hm := ifB_f hb hm
          refine lg false rfl rfl rfl ?_
          refine lp rfl (p_fab fl63_1 rfl) ?_
          refine lg false rfl rfl rfl ?_
          refine lp rfl (p_lbs ty9 rfl (j := 0) rfl rfl) ?_
          refine lg false rfl rfl rfl ?_
          obtain ⟨y13, hy13, hm⟩ := bindS hm
          refine r_call [] cf49 rfl rfl (ok_kit_IsKey x2.Places hy13) rfl rfl .nil (fun _ => rfl) rfl (fun _ => ?_)
          refine lg false rfl rfl rfl ?_
          refine lp rfl (p_not rfl) ?_
          refine lp rfl (p_pkf rfl rfl) ?_
          refine lp rfl (p_as rfl) ?_
          refine lj_nil ?_
          exact cnk11 _ _ (!y13) () (Option.some.inj hm).symm ⟨rfl, rfl, rfl, rfl, rfl, rfl, rfl, rfl, trivial⟩ (fun _ h => h.picks [0, 0, 0] rfl)
theorem ok_concert_CheckProgram (a0 : TProgram) (s0_0_ : SV) (xg0_0_ : List (TItem × SV)) {r : Int} (hm : m_concert_CheckProgram a0 = some r) :
    Ctr Tryd.prog 18 [.agg [s0_0_.v, .int .i64 a0.Change, .int .i64 a0.Clap, .int .i64 a0.Break, .int .i64 a0.Half].toArray].toArray ([] : List Ent) [Lk N63 a0.Items xg0_0_, RdS N63.R (SV.v s0_0_) xg0_0_] (X := Unit) (fun _ => .int .i64 r) (fun _ => []) := by
  unfold m_concert_CheckProgram at hm
  refine ctr_mk (vs := [(0, .agg [s0_0_.v, .int .i64 a0.Change, .int .i64 a0.Clap, .int .i64 a0.Break, .int .i64 a0.Half].toArray)]) Tryd.func18 rfl Tryd.ntmps18 rfl ⟨rfl, trivial⟩ (fun w0 A => ?_)
  refine cj_pure (F := Lk N63 a0.Items xg0_0_) (.ro 0 rfl) (fun _ h => h.1) (fun hL0_0_ => ?_)
  refine cj_seq ?_
  refine cj_reg ?_
  refine r_bx (cs := [s0_0_.v, .int .i64 a0.Change, .int .i64 a0.Clap, .int .i64 a0.Break, .int .i64 a0.Half]) rfl rfl rfl (fun b1 => ?_)
  refine lp rfl (p_as rfl) ?_
  refine lj_seq ?_
  refine cj_seq ?_
  refine cj_seq ?_
  refine cj_reg ?_
  refine lp rfl (p_fab fl28_0 rfl) ?_
  refine lp rfl (p_lbs ty26 rfl (j := 0) rfl rfl) ?_
  obtain ⟨y2, hy2, hm⟩ := bindS hm
  refine r_call [] cf16 rfl rfl (ok_concert_CheckItems s0_0_ xg0_0_ a0.Items hy2) rfl rfl (.cons (.ro 1 rfl) (.cons (.ro 2 rfl) .nil)) (fun _ => rfl) rfl (fun _ => ?_)
  refine lp rfl (p_as rfl) ?_
  refine lj_seq ?_
  refine cj_seq ?_
  refine cj_reg ?_
  refine lp rfl (p_mv rfl) ?_
  refine lp rfl (p_neq rfl rfl) ?_
  refine lj_seq ?_
  refine cj_if (b := y2 != 0) rfl (fun hb => ?_) (fun hb => ?_)
  · have hm := ifB_t hb hm
    refine cj_seq ?_
    refine cj_reg ?_
    refine lp rfl (p_mv rfl) ?_
    refine lp rfl (p_as rfl) ?_
    refine lj_seq ?_
    obtain rfl := Option.some.inj hm
    exact cj_rt () [] Tryd.results18 (.tmp rfl .nil) rfl rfl
  · have hm := ifB_f hb hm
    refine cj_skip ?_
    refine nj_seq ?_
    refine cj_seq ?_
    refine cj_seq ?_
    refine cj_reg ?_
    obtain ⟨k5, hk5, hm⟩ := bindS hm
    have hRk5 : ∀ t, k5 = .inr t → some t = some r := fun t e => by rw [e] at hm; exact hm
    refine lj_join (σ := Bool) (γ := Unit) (fun u3 => k5 = .inl u3) (fun u3 g4 => [(2, .int .i64 0), (32, .bool u3)]) (fun u3 g4 => Sat w0 (keys ([] : List Ent)) A []) (fun u3 g4 hq => ?_) (fun J cnk5 => ?_)
    · have hm := Sum.fin_l hq hm
      refine cj_if (b := u3) rfl (fun hb => ?_) (fun hb => ?_)
      · have hm := ifB_t hb hm
        refine cj_seq ?_
        refine cj_reg ?_
        refine lp rfl (p_as rfl) ?_
        refine lj_seq ?_
        obtain rfl := Option.some.inj hm
        exact cj_rt () [] Tryd.results18 (.tmp rfl .nil) rfl rfl
      · have hm := ifB_f hb hm
        refine cj_skip ?_
        refine nj_seq ?_
        refine cj_seq ?_
        refine cj_reg ?_
        refine lp rfl (p_as rfl) ?_
        refine lj_seq ?_
        obtain rfl := Option.some.inj hm
        exact cj_rt () [] Tryd.results18 (.tmp rfl .nil) rfl rfl
    · have hm := hk5
      refine lp rfl (p_fab fl28_1 rfl) ?_
      refine lp rfl (p_lbs ty3 rfl (j := 0) rfl rfl) ?_
      obtain ⟨y6, hy6, hm⟩ := bindS hm
      refine r_call [] cf52 rfl rfl (ok_kit_Outside a0.Change 0 86400000 hy6) rfl rfl .nil (fun _ => rfl) rfl (fun _ => ?_)
      refine lp rfl (p_mv rfl) ?_
      refine lcase (i := 13) y6 rfl (fun hb => ?_) (fun hb => ?_)
      · have hm := ifB_t hb hm
        refine ls false rfl rfl rfl rfl ?_
        refine ls false rfl rfl rfl rfl ?_
        refine ls false rfl rfl rfl rfl ?_
        refine lp rfl (p_pkt rfl rfl) ?_
        refine lp rfl (p_mv rfl) ?_
        refine ls false rfl rfl rfl rfl ?_
        refine ls false rfl rfl rfl rfl ?_
        refine ls false rfl rfl rfl rfl ?_
        refine lp rfl (p_pkt rfl rfl) ?_
        refine lp rfl (p_mv rfl) ?_
        refine ls false rfl rfl rfl rfl ?_
        refine ls false rfl rfl rfl rfl ?_
        refine ls false rfl rfl rfl rfl ?_
        refine ls false rfl rfl rfl rfl ?_
        refine ls false rfl rfl rfl rfl ?_
        refine ls false rfl rfl rfl rfl ?_
        refine ls false rfl rfl rfl rfl ?_
        refine ls false rfl rfl rfl rfl ?_
        refine lp rfl (p_pkt rfl rfl) ?_
        refine lj_nil ?_
        exact cnk5 _ _ true () (Option.some.inj hm).symm ⟨rfl, rfl, trivial⟩ (fun _ h => h.picks [] rfl)
      · have hm := ifB_f hb hm
        refine lg false rfl rfl rfl ?_
        refine lp rfl (p_fab fl28_2 rfl) ?_
        refine lg false rfl rfl rfl ?_
        refine lp rfl (p_lbs ty3 rfl (j := 0) rfl rfl) ?_
        refine lg false rfl rfl rfl ?_
        obtain ⟨y7, hy7, hm⟩ := bindS hm
        refine r_call [] cf52 rfl rfl (ok_kit_Outside a0.Clap 0 86400000 hy7) rfl rfl .nil (fun _ => rfl) rfl (fun _ => ?_)
        refine lp rfl (p_pkf rfl rfl) ?_
        refine lp rfl (p_mv rfl) ?_
        refine lcase (i := 18) y7 rfl (fun hb => ?_) (fun hb => ?_)
        · have hm := ifB_t hb hm
          refine ls false rfl rfl rfl rfl ?_
          refine ls false rfl rfl rfl rfl ?_
          refine ls false rfl rfl rfl rfl ?_
          refine lp rfl (p_pkt rfl rfl) ?_
          refine lp rfl (p_mv rfl) ?_
          refine ls false rfl rfl rfl rfl ?_
          refine ls false rfl rfl rfl rfl ?_
          refine ls false rfl rfl rfl rfl ?_
          refine ls false rfl rfl rfl rfl ?_
          refine ls false rfl rfl rfl rfl ?_
          refine ls false rfl rfl rfl rfl ?_
          refine ls false rfl rfl rfl rfl ?_
          refine ls false rfl rfl rfl rfl ?_
          refine lp rfl (p_pkt rfl rfl) ?_
          refine lj_nil ?_
          exact cnk5 _ _ true () (Option.some.inj hm).symm ⟨rfl, rfl, trivial⟩ (fun _ h => h.picks [] rfl)
        · have hm := ifB_f hb hm
          refine lg false rfl rfl rfl ?_
          refine lp rfl (p_fab fl28_3 rfl) ?_
          refine lg false rfl rfl rfl ?_
          refine lp rfl (p_lbs ty3 rfl (j := 0) rfl rfl) ?_
          refine lg false rfl rfl rfl ?_
          obtain ⟨y8, hy8, hm⟩ := bindS hm
          refine r_call [] cf52 rfl rfl (ok_kit_Outside a0.Break 0 86400000 hy8) rfl rfl .nil (fun _ => rfl) rfl (fun _ => ?_)
          refine lp rfl (p_pkf rfl rfl) ?_
          refine lp rfl (p_mv rfl) ?_
          refine lcase (i := 23) y8 rfl (fun hb => ?_) (fun hb => ?_)
          · have hm := ifB_t hb hm
            refine ls false rfl rfl rfl rfl ?_
            refine ls false rfl rfl rfl rfl ?_
            refine ls false rfl rfl rfl rfl ?_
            refine ls false rfl rfl rfl rfl ?_
            refine ls false rfl rfl rfl rfl ?_
            refine ls false rfl rfl rfl rfl ?_
            refine ls false rfl rfl rfl rfl ?_
            refine ls false rfl rfl rfl rfl ?_
            refine lp rfl (p_pkt rfl rfl) ?_
            refine lj_nil ?_
            exact cnk5 _ _ true () (Option.some.inj hm).symm ⟨rfl, rfl, trivial⟩ (fun _ h => h.picks [] rfl)
          · have hm := ifB_f hb hm
            refine lg false rfl rfl rfl ?_
            refine lp rfl (p_fab fl28_4 rfl) ?_
            refine lg false rfl rfl rfl ?_
            refine lp rfl (p_lbs ty3 rfl (j := 0) rfl rfl) ?_
            refine lg false rfl rfl rfl ?_
            refine lp rfl (p_fab fl28_0 rfl) ?_
            refine lg false rfl rfl rfl ?_
            refine lp rfl (p_lbs ty26 rfl (j := 0) rfl rfl) ?_
            refine lg false rfl rfl rfl ?_
            refine lp rfl (p_lenG hL0_0_ Tryd.underlying26 rfl (.ro 2 rfl)) ?_
            refine lg false rfl rfl rfl ?_
            refine lp rfl (p_sub rfl rfl) ?_
            refine lg false rfl rfl rfl ?_
            refine lp rfl (p_max rfl rfl) ?_
            refine lg false rfl rfl rfl ?_
            obtain ⟨y9, hy9, hm⟩ := bindS hm
            refine r_call [] cf52 rfl rfl (ok_kit_Outside a0.Half (-1) (max (-1) (w64 ((a0.Items.length : Int) - 2))) hy9) rfl rfl .nil (fun _ => rfl) rfl (fun _ => ?_)
            refine lp rfl (p_pkf rfl rfl) ?_
            refine lj_nil ?_
            exact cnk5 _ _ y9 () (Option.some.inj hm).symm ⟨rfl, rfl, trivial⟩ (fun _ h => h.picks [] rfl)
theorem ok_concert_change (a0 : TProgram) (s0_0_ : SV) (xg0_0_ : List (TItem × SV)) (a1 : TItem) (s1_3_ : SV) (a2 : TItem) (s2_3_ : SV) {r : Int} (hm : m_concert_change a0 a1 a2 = some r) :
    Ctr Tryd.prog 74 [.agg [s0_0_.v, .int .i64 a0.Change, .int .i64 a0.Clap, .int .i64 a0.Break, .int .i64 a0.Half].toArray, .agg [.string a1.Key, .string a1.Places, .int .i64 a1.Long, s1_3_.v].toArray, .agg [.string a2.Key, .string a2.Places, .int .i64 a2.Long, s2_3_.v].toArray].toArray ([] : List Ent) [Lk N63 a0.Items xg0_0_, RdS N63.R (SV.v s0_0_) xg0_0_, RdS R9 (SV.v s1_3_) a1.Parts, RdS R9 (SV.v s2_3_) a2.Parts] (X := Unit) (fun _ => .int .i64 r) (fun _ => []) := by
  unfold m_concert_change at hm
  refine ctr_mk (vs := [(0, .agg [s0_0_.v, .int .i64 a0.Change, .int .i64 a0.Clap, .int .i64 a0.Break, .int .i64 a0.Half].toArray), (1, .agg [.string a1.Key, .string a1.Places, .int .i64 a1.Long, s1_3_.v].toArray), (2, .agg [.string a2.Key, .string a2.Places, .int .i64 a2.Long, s2_3_.v].toArray)]) Tryd.func74 rfl Tryd.ntmps74 rfl ⟨rfl, rfl, rfl, trivial⟩ (fun w0 A => ?_)
  refine cj_pure (F := Lk N63 a0.Items xg0_0_) (.ro 0 rfl) (fun _ h => h.1) (fun hL0_0_ => ?_)
  refine cj_seq ?_
  refine cj_reg ?_
  refine r_bx (cs := [s0_0_.v, .int .i64 a0.Change, .int .i64 a0.Clap, .int .i64 a0.Break, .int .i64 a0.Half]) rfl rfl rfl (fun b1 => ?_)
  refine r_bx (cs := [.string a1.Key, .string a1.Places, .int .i64 a1.Long, s1_3_.v]) rfl rfl rfl (fun b2 => ?_)
  refine r_bx (cs := [.string a2.Key, .string a2.Places, .int .i64 a2.Long, s2_3_.v]) rfl rfl rfl (fun b3 => ?_)
  refine lp rfl (p_as rfl) ?_
  refine lj_seq ?_
  refine cj_seq ?_
  refine cj_seq ?_
  refine cj_reg ?_
  refine lp rfl (p_fab fl63_1 rfl) ?_
  refine lp rfl (p_lbs ty9 rfl (j := 1) rfl rfl) ?_
  refine lp rfl (p_fab fl63_1 rfl) ?_
  refine lp rfl (p_lbs ty9 rfl (j := 0) rfl rfl) ?_
  refine lp rfl (p_nes rfl rfl) ?_
  refine lj_seq ?_
  refine cj_if (b := !(a1.Places.toList == a2.Places.toList)) rfl (fun hb => ?_) (fun hb => ?_)
  · have hm := ifB_t hb hm
    refine cj_seq ?_
    refine cj_reg ?_
    refine lp rfl (p_fab fl28_1 rfl) ?_
    refine lp rfl (p_lbs ty3 rfl (j := 2) rfl rfl) ?_
    refine lp rfl (p_as rfl) ?_
    refine lj_seq ?_
    obtain rfl := Option.some.inj hm
    exact cj_rt () [] Tryd.results74 (.tmp rfl .nil) rfl rfl
  · have hm := ifB_f hb hm
    refine cj_skip ?_
    refine nj_seq ?_
    refine cj_seq ?_
    refine cj_reg ?_
    refine lp rfl (p_fab fl28_2 rfl) ?_
    refine lp rfl (p_lbs ty3 rfl (j := 2) rfl rfl) ?_
    refine lp rfl (p_as rfl) ?_
    refine lj_seq ?_
    obtain rfl := Option.some.inj hm
    exact cj_rt () [] Tryd.results74 (.tmp rfl .nil) rfl rfl
theorem ok_concert_behind (a0 : TProgram) (s0_0_ : SV) (xg0_0_ : List (TItem × SV)) (a1 : Int) {r : Int} (hm : m_concert_behind a0 a1 = some r) :
    Ctr Tryd.prog 85 [.agg [s0_0_.v, .int .i64 a0.Change, .int .i64 a0.Clap, .int .i64 a0.Break, .int .i64 a0.Half].toArray, .int .i64 a1].toArray ([] : List Ent) [Lk N63 a0.Items xg0_0_, RdS N63.R (SV.v s0_0_) xg0_0_] (X := Unit) (fun _ => .int .i64 r) (fun _ => []) := by
  unfold m_concert_behind at hm
  refine ctr_mk (vs := [(0, .agg [s0_0_.v, .int .i64 a0.Change, .int .i64 a0.Clap, .int .i64 a0.Break, .int .i64 a0.Half].toArray), (1, .int .i64 a1)]) Tryd.func85 rfl Tryd.ntmps85 rfl ⟨rfl, rfl, trivial⟩ (fun w0 A => ?_)
  refine cj_pure (F := Lk N63 a0.Items xg0_0_) (.ro 0 rfl) (fun _ h => h.1) (fun hL0_0_ => ?_)
  refine cj_seq ?_
  refine cj_reg ?_
  refine r_bx (cs := [s0_0_.v, .int .i64 a0.Change, .int .i64 a0.Clap, .int .i64 a0.Break, .int .i64 a0.Half]) rfl rfl rfl (fun b1 => ?_)
  refine lp rfl (p_as rfl) ?_
  refine lj_seq ?_
  refine cj_seq ?_
  refine cj_seq ?_
  refine cj_reg ?_
  refine lp rfl (p_mv rfl) ?_
  refine lp rfl (p_fab fl28_4 rfl) ?_
  refine lp rfl (p_lbs ty3 rfl (j := 0) rfl rfl) ?_
  refine lp rfl (p_eql rfl rfl) ?_
  refine lj_seq ?_
  refine cj_if (b := a1 == a0.Half) rfl (fun hb => ?_) (fun hb => ?_)
  · have hm := ifB_t hb hm
    refine cj_seq ?_
    refine cj_reg ?_
    refine lp rfl (p_fab fl28_3 rfl) ?_
    refine lp rfl (p_lbs ty3 rfl (j := 0) rfl rfl) ?_
    refine lp rfl (p_as rfl) ?_
    refine lj_seq ?_
    obtain rfl := Option.some.inj hm
    exact cj_rt () [] Tryd.results85 (.tmp rfl .nil) rfl rfl
  · have hm := ifB_f hb hm
    refine cj_skip ?_
    refine nj_seq ?_
    refine cj_seq ?_
    refine cj_quiet (by kernel_rfl) (by kernel_rfl) ?_
    refine q_p rfl (p_lbw ty28 rfl (j := 0) rfl rfl) ?_
    refine q_p rfl (p_fab fl28_0 rfl) ?_
    refine q_p rfl (p_lbs ty26 rfl (j := 0) rfl rfl) ?_
    refine q_p rfl (p_mv rfl) ?_
    obtain ⟨e2, he2, hm⟩ := bindS hm
    obtain ⟨ge2, he2G⟩ := lk_getI hL0_0_ he2
    refine q_p rfl (p_idx Tryd.underlying26 ty63 rfl rfl (.ro 2 rfl) he2G) ?_
    refine q_p rfl (p_leaN (cs := [.string e2.Key, .string e2.Places, .int .i64 e2.Long, ge2.v]) ty63 rfl (.ro 2 rfl) (getI_spec he2G).2 rfl) ?_
    refine q_p rfl (p_fab fl28_0 rfl) ?_
    refine q_p rfl (p_lbs ty26 rfl (j := 0) rfl rfl) ?_
    refine q_p rfl (p_mv rfl) ?_
    refine q_p rfl (p_add rfl rfl) ?_
    obtain ⟨e3, he3, hm⟩ := bindS hm
    obtain ⟨ge3, he3G⟩ := lk_getI hL0_0_ he3
    refine q_p rfl (p_idx Tryd.underlying26 ty63 rfl rfl (.ro 2 rfl) he3G) ?_
    refine q_p rfl (p_leaN (cs := [.string e3.Key, .string e3.Places, .int .i64 e3.Long, ge3.v]) ty63 rfl (.ro 2 rfl) (getI_spec he3G).2 rfl) ?_
    obtain ⟨y4, hy4, hm⟩ := bindS hm
    refine q_call (.int .i64 y4) cf74 rfl rfl (ok_concert_change a0 s0_0_ xg0_0_ e2 ge2 e3 ge3 hy4) (.cons (.ro 1 rfl) (.cons (.ro 2 rfl) (.cons (.imp (.ro 1 rfl) (fun _ h => (Lk.at_ h (getI_spec he2G).2))) (.cons (.imp (.ro 1 rfl) (fun _ h => (Lk.at_ h (getI_spec he3G).2))) .nil)))) (fun _ => rfl) (fun _ => rfl) rfl ?_
    refine q_p rfl (p_as rfl) ?_
    refine q_nil ?_
    refine nj_seq ?_
    obtain rfl := Option.some.inj hm
    exact cj_rt () [] Tryd.results85 (.tmp rfl .nil) rfl rfl
theorem ok_concert_begins (a0 : TProgram) (s0_0_ : SV) (xg0_0_ : List (TItem × SV)) {r : (List Int) × Int} (hm : m_concert_begins a0 = some r) :
    Ctr Tryd.prog 45 [.agg [s0_0_.v, .int .i64 a0.Change, .int .i64 a0.Clap, .int .i64 a0.Break, .int .i64 a0.Half].toArray].toArray ([] : List Ent) [Lk N63 a0.Items xg0_0_, RdS N63.R (SV.v s0_0_) xg0_0_] (X := SV) (fun s => .tuple [s.v, .int .i64 r.2].toArray) (fun s => [.row R3 (SV.v s) r.1]) := by
  unfold m_concert_begins at hm
  refine ctr_mk (vs := [(0, .agg [s0_0_.v, .int .i64 a0.Change, .int .i64 a0.Clap, .int .i64 a0.Break, .int .i64 a0.Half].toArray)]) Tryd.func45 rfl Tryd.ntmps45 rfl ⟨rfl, trivial⟩ (fun w0 A => ?_)
  refine cj_pure (F := Lk N63 a0.Items xg0_0_) (.ro 0 rfl) (fun _ h => h.1) (fun hL0_0_ => ?_)
  refine cj_seq ?_
  refine cj_reg ?_
  refine r_bx (cs := [s0_0_.v, .int .i64 a0.Change, .int .i64 a0.Clap, .int .i64 a0.Break, .int .i64 a0.Half]) rfl rfl rfl (fun b1 => ?_)
  refine lp rfl (p_as rfl) ?_
  refine lp rfl (p_as rfl) ?_
  refine lj_seq ?_
  refine cj_seq ?_
  refine cj_reg ?_
  refine lp rfl (p_as rfl) ?_
  refine lj_seq ?_
  refine cj_seq ?_
  refine cj_reg ?_
  refine lp rfl (p_as rfl) ?_
  refine lj_seq ?_
  refine cj_seq ?_
  refine cj_seq ?_
  refine cj_reg ?_
  refine lp rfl (p_fab fl28_0 rfl) ?_
  refine lp rfl (p_lbs ty26 rfl (j := 0) rfl rfl) ?_
  refine lp rfl (p_lenG hL0_0_ Tryd.underlying26 rfl (.ro 2 rfl)) ?_
  refine lp rfl (p_mv rfl) ?_
  refine lj_seq ?_
  refine cj_nil R3 ?_
  obtain ⟨f9, hf9, hm⟩ := bindS hm
  refine cj_range (γ := SV) (m := (a0.Items.length : Int)) hf9 nilS (fun u6 g7 => [(1, .pointer (some ⟨b1, 0, none⟩)), (2, .slice none 0 0), (3, .int .i64 0), (4, g7.v), (5, .int .i64 u6.1), (9, s0_0_.v)]) (fun u6 g7 => Sat w0 (keys ([] : List Ent)) A [.box b1 28 [s0_0_.v, .int .i64 a0.Change, .int .i64 a0.Clap, .int .i64 a0.Break, .int .i64 a0.Half], .ro (Lk N63 a0.Items xg0_0_), .ro (RdS N63.R (SV.v s0_0_) xg0_0_), .row R3 (SV.v g7) u6.2]) ⟨rfl, rfl, rfl, rfl, rfl, rfl, rfl, rfl, trivial⟩ (fun _ h => h.picks [1, 1, 1, 0] rfl) (nat_lt _) (fun _ h => by have h1 := (FactAt.get (.ro 3 rfl) h).1; rw [lk_len hL0_0_] at h1; exact h1) (fun _ _ => ⟨rfl, rfl, rfl, rfl⟩) ⟨rfl, rfl, rfl, rfl, rfl⟩ rfl rfl rfl (fun u6 g7 e => ?_) (fun aftk8 i2 x3 u6 g7 k8 hx4 hs J hJk8 hBk8 hX I cnk8 => ?_)
  · have hm := Flow.fin_b e hm
    refine nj_seq ?_
    refine cj_seq ?_
    refine cj_reg ?_
    refine lp rfl (p_mv rfl) ?_
    refine lp rfl (p_mv rfl) ?_
    refine lp rfl (p_as rfl) ?_
    refine lp rfl (p_as rfl) ?_
    refine lj_seq ?_
    obtain rfl := Option.some.inj hm
    exact cj_rt g7 [3] Tryd.results45 (.tmp rfl (.tmp rfl .nil)) rfl rfl
  · have hRk8 : ∀ t, k8 = .ret t → some t = some r := fun t e => by rw [hX t e] at hm; exact hm
    have hm := hs
    refine cj_seq ?_
    refine cj_reg ?_
    refine lp rfl (p_mv rfl) ?_
    obtain ⟨gx3, hx4G⟩ := lk_get hL0_0_ hx4
    refine lp rfl (p_idx Tryd.underlying26 ty63 rfl rfl (.ro 2 rfl) (getI_nat.trans hx4G)) ?_
    refine lp rfl (p_leaN (cs := [.string x3.Key, .string x3.Places, .int .i64 x3.Long, gx3.v]) ty63 rfl (.ro 2 rfl) hx4G rfl) ?_
    refine r_al ty63 rfl (fun b11 => ?_)
    refine lp rfl (p_as rfl) ?_
    refine r_sb (vs := [.string x3.Key, .string x3.Places, .int .i64 x3.Long, gx3.v]) (j := 0) ty63 rfl rfl rfl rfl rfl rfl rfl ?_
    refine lj_seq ?_
    refine cj_seq ?_
    refine cj_reg ?_
    refine lp rfl (p_mv rfl) ?_
    refine lp rfl (p_mv rfl) ?_
    refine r_bs R3 [u6.1] rfl rfl rfl (fun _ => by kernel_rfl) rfl (fun s12 => ?_)
    obtain ⟨q13, hq13, hm⟩ := bindS hm
    refine r_app (k := 5) Tryd.underlying22 ty3 rfl rfl rfl rfl (.row 0 rfl) hq13 rfl (fun s14 => ?_)
    refine lp rfl (p_as rfl) ?_
    refine lj_seq ?_
    refine cj_seq ?_
    refine cj_reg ?_
    refine lp rfl (p_mv rfl) ?_
    refine lp rfl (p_fab fl63_2 rfl) ?_
    refine lp rfl (p_lbs ty3 rfl (j := 1) rfl rfl) ?_
    refine lp rfl (p_add rfl rfl) ?_
    refine lp rfl (p_as rfl) ?_
    refine lj_seq ?_
    refine cj_seq ?_
    refine cj_reg ?_
    refine lp rfl (p_mv rfl) ?_
    refine lp rfl (p_add rfl rfl) ?_
    refine lp rfl (p_fab fl28_0 rfl) ?_
    refine lp rfl (p_lbs ty26 rfl (j := 2) rfl rfl) ?_
    refine lp rfl (p_lenG hL0_0_ Tryd.underlying26 rfl (.ro 4 rfl)) ?_
    refine lp rfl (p_lss rfl rfl) ?_
    refine lj_seq ?_
    refine cj_if (b := decide ((w64 ((i2 : Int) + 1)) < (a0.Items.length : Int))) rfl (fun hb => ?_) (fun hb => ?_)
    · have hm := ifB_t hb hm
      refine cj_reg ?_
      refine lp rfl (p_mv rfl) ?_
      refine lp rfl (p_lbw ty28 rfl (j := 2) rfl rfl) ?_
      refine lp rfl (p_mv rfl) ?_
      obtain ⟨y15, hy15, hm⟩ := bindS hm
      refine r_call [] cf85 rfl rfl (ok_concert_behind a0 s0_0_ xg0_0_ (i2 : Int) hy15) rfl rfl (.cons (.ro 3 rfl) (.cons (.ro 4 rfl) .nil)) (fun _ => rfl) rfl (fun _ => ?_)
      refine lp rfl (p_add rfl rfl) ?_
      refine lp rfl (p_as rfl) ?_
      refine lj_nil ?_
      refine nj_blk ?_
      exact cnk8 _ _ (w64 ((w64 (u6.1 + x3.Long)) + y15), q13) s14 (hJk8 _ (Option.some.inj hm).symm) ⟨rfl, rfl, rfl, rfl, rfl, rfl, rfl, rfl, trivial⟩ (fun _ h => h.picks [2, 2, 2, 2] rfl)
    · have hm := ifB_f hb hm
      refine cj_skip ?_
      refine nj_blk ?_
      exact cnk8 _ _ (w64 (u6.1 + x3.Long), q13) s14 (hJk8 _ (Option.some.inj hm).symm) ⟨rfl, rfl, rfl, rfl, rfl, rfl, rfl, rfl, trivial⟩ (fun _ h => h.picks [2, 2, 2, 2] rfl)
theorem ok_concert_longOf (a0 : TProgram) (s0_0_ : SV) (xg0_0_ : List (TItem × SV)) (s1_ : SV) (xg1_ : List (TItem × SV)) (a1 : (List TItem)) {r : Int} (hm : m_concert_longOf a0 a1 = some r) :
    Ctr Tryd.prog 62 [.agg [s0_0_.v, .int .i64 a0.Change, .int .i64 a0.Clap, .int .i64 a0.Break, .int .i64 a0.Half].toArray, s1_.v].toArray ([] : List Ent) [Lk N63 a0.Items xg0_0_, RdS N63.R (SV.v s0_0_) xg0_0_, Lk N63 a1 xg1_, RdS N63.R (SV.v s1_) xg1_] (X := Unit) (fun _ => .int .i64 r) (fun _ => []) := by
  unfold m_concert_longOf at hm
  refine ctr_mk (vs := [(0, .agg [s0_0_.v, .int .i64 a0.Change, .int .i64 a0.Clap, .int .i64 a0.Break, .int .i64 a0.Half].toArray), (1, s1_.v)]) Tryd.func62 rfl Tryd.ntmps62 rfl ⟨rfl, rfl, trivial⟩ (fun w0 A => ?_)
  refine cj_pure (F := Lk N63 a0.Items xg0_0_) (.ro 0 rfl) (fun _ h => h.1) (fun hL0_0_ => ?_)
  refine cj_pure (F := Lk N63 a1 xg1_) (.ro 2 rfl) (fun _ h => h.1) (fun hL1_ => ?_)
  refine cj_seq ?_
  refine cj_reg ?_
  refine r_bx (cs := [s0_0_.v, .int .i64 a0.Change, .int .i64 a0.Clap, .int .i64 a0.Break, .int .i64 a0.Half]) rfl rfl rfl (fun b1 => ?_)
  refine lp rfl (p_as rfl) ?_
  refine lj_seq ?_
  refine cj_seq ?_
  refine cj_reg ?_
  refine lp rfl (p_mv rfl) ?_
  refine lp rfl (p_fab fl28_0 rfl) ?_
  refine r_sb (vs := [s1_.v]) (j := 0) ty26 rfl rfl rfl rfl rfl rfl rfl ?_
  refine lp rfl (p_fab fl28_4 rfl) ?_
  refine r_sb (vs := [.int .i64 (-1)]) (j := 0) ty3 rfl rfl rfl rfl rfl rfl rfl ?_
  refine lj_seq ?_
  refine cj_seq ?_
  refine cj_reg ?_
  refine lp rfl (p_lbw ty28 rfl (j := 0) rfl rfl) ?_
  obtain ⟨y2, hy2, hm⟩ := bindS hm
  refine r_call [] cf45 rfl rfl (ok_concert_begins (TProgram.mk a1 a0.Change a0.Clap a0.Break (-1)) s1_ xg1_ hy2) rfl rfl (.cons (.ro 3 rfl) (.cons (.ro 4 rfl) .nil)) (fun _ => rfl) rfl (fun s3 => ?_)
  refine lp rfl (p_mv rfl) ?_
  refine lp rfl (p_ext rfl rfl) ?_
  refine lp rfl (p_ext rfl rfl) ?_
  refine lp rfl (p_as rfl) ?_
  refine lp rfl (p_as rfl) ?_
  refine lj_seq ?_
  refine cj_seq ?_
  refine cj_reg ?_
  refine lp rfl (p_mv rfl) ?_
  refine lp rfl (p_as rfl) ?_
  refine lj_seq ?_
  obtain rfl := Option.some.inj hm
  exact cj_rt () [] Tryd.results62 (.tmp rfl .nil) rfl rfl
theorem ok_cmp_isNaN_int (a0 : Int) {r : Bool} (hm : m_cmp_isNaN_int a0 = some r) :
    Ctr Tryd.prog 109 [.int .i64 a0].toArray ([] : List Ent) [] (X := Unit) (fun _ => .bool r) (fun _ => []) := by
  unfold m_cmp_isNaN_int at hm
  refine ctr_mk (vs := [(0, .int .i64 a0)]) Tryd.func109 rfl Tryd.ntmps109 rfl ⟨rfl, trivial⟩ (fun w0 A => ?_)
  refine cj_seq ?_
  refine cj_reg ?_
  refine lp rfl (p_as rfl) ?_
  refine lj_seq ?_
  refine cj_seq ?_
  refine cj_reg ?_
  refine lp rfl (p_mv rfl) ?_
  refine lp rfl (p_mv rfl) ?_
  refine lp rfl (p_neq rfl rfl) ?_
  refine lp rfl (p_as rfl) ?_
  refine lj_seq ?_
  obtain rfl := Option.some.inj hm
  exact cj_rt () [] Tryd.results109 (.tmp rfl .nil) rfl rfl
theorem ok_cmp_Compare_int (a0 : Int) (a1 : Int) {r : Int} (hm : m_cmp_Compare_int a0 a1 = some r) :
    Ctr Tryd.prog 92 [.int .i64 a0, .int .i64 a1].toArray ([] : List Ent) [] (X := Unit) (fun _ => .int .i64 r) (fun _ => []) := by
  unfold m_cmp_Compare_int at hm
  refine ctr_mk (vs := [(0, .int .i64 a0), (1, .int .i64 a1)]) Tryd.func92 rfl Tryd.ntmps92 rfl ⟨rfl, rfl, trivial⟩ (fun w0 A => ?_)
  refine cj_seq ?_
  refine cj_reg ?_
  refine lp rfl (p_as rfl) ?_
  refine lj_seq ?_
  refine cj_seq ?_
  refine cj_reg ?_
  refine lp rfl (p_mv rfl) ?_
  obtain ⟨y1, hy1, hm⟩ := bindS hm
  refine r_call [] cf109 rfl rfl (ok_cmp_isNaN_int a0 hy1) rfl rfl .nil (fun _ => rfl) rfl (fun _ => ?_)
  refine lp rfl (p_as rfl) ?_
  refine lj_seq ?_
  refine cj_seq ?_
  refine cj_reg ?_
  refine lp rfl (p_mv rfl) ?_
  obtain ⟨y2, hy2, hm⟩ := bindS hm
  refine r_call [] cf109 rfl rfl (ok_cmp_isNaN_int a1 hy2) rfl rfl .nil (fun _ => rfl) rfl (fun _ => ?_)
  refine lp rfl (p_as rfl) ?_
  refine lj_seq ?_
  refine cj_seq ?_
  refine cj_seq ?_
  refine cj_reg ?_
  refine lp rfl (p_mv rfl) ?_
  refine lj_seq ?_
  refine cj_if (b := y1) rfl (fun hb => ?_) (fun hb => ?_)
  · have hm := ifB_t hb hm
    refine cj_seq ?_
    refine cj_seq ?_
    refine cj_reg ?_
    refine lp rfl (p_mv rfl) ?_
    refine lj_seq ?_
    refine cj_if (b := y2) rfl (fun hb => ?_) (fun hb => ?_)
    · have hm := ifB_t hb hm
      refine cj_seq ?_
      refine cj_reg ?_
      refine lp rfl (p_as rfl) ?_
      refine lj_seq ?_
      obtain rfl := Option.some.inj hm
      exact cj_rt () [] Tryd.results92 (.tmp rfl .nil) rfl rfl
    · have hm := ifB_f hb hm
      refine cj_skip ?_
      refine nj_seq ?_
      refine cj_seq ?_
      refine cj_reg ?_
      refine lp rfl (p_as rfl) ?_
      refine lj_seq ?_
      obtain rfl := Option.some.inj hm
      exact cj_rt () [] Tryd.results92 (.tmp rfl .nil) rfl rfl
  · have hm := ifB_f hb hm
    refine cj_skip ?_
    refine nj_seq ?_
    refine cj_seq ?_
    refine cj_seq ?_
    refine cj_reg ?_
    refine lp rfl (p_mv rfl) ?_
    refine lj_seq ?_
    refine cj_if (b := y2) rfl (fun hb => ?_) (fun hb => ?_)
    · have hm := ifB_t hb hm
      refine cj_seq ?_
      refine cj_reg ?_
      refine lp rfl (p_as rfl) ?_
      refine lj_seq ?_
      obtain rfl := Option.some.inj hm
      exact cj_rt () [] Tryd.results92 (.tmp rfl .nil) rfl rfl
    · have hm := ifB_f hb hm
      refine cj_skip ?_
      refine nj_seq ?_
      refine cj_seq ?_
      refine cj_seq ?_
      refine cj_reg ?_
      refine lp rfl (p_mv rfl) ?_
      refine lp rfl (p_mv rfl) ?_
      refine lp rfl (p_lss rfl rfl) ?_
      refine lj_seq ?_
      refine cj_if (b := decide (a0 < a1)) rfl (fun hb => ?_) (fun hb => ?_)
      · have hm := ifB_t hb hm
        refine cj_seq ?_
        refine cj_reg ?_
        refine lp rfl (p_as rfl) ?_
        refine lj_seq ?_
        obtain rfl := Option.some.inj hm
        exact cj_rt () [] Tryd.results92 (.tmp rfl .nil) rfl rfl
      · have hm := ifB_f hb hm
        refine cj_skip ?_
        refine nj_seq ?_
        refine cj_seq ?_
        refine cj_seq ?_
        refine cj_reg ?_
        refine lp rfl (p_mv rfl) ?_
        refine lp rfl (p_mv rfl) ?_
        refine lp rfl (p_gtr rfl rfl) ?_
        refine lj_seq ?_
        refine cj_if (b := decide (a0 > a1)) rfl (fun hb => ?_) (fun hb => ?_)
        · have hm := ifB_t hb hm
          refine cj_seq ?_
          refine cj_reg ?_
          refine lp rfl (p_as rfl) ?_
          refine lj_seq ?_
          obtain rfl := Option.some.inj hm
          exact cj_rt () [] Tryd.results92 (.tmp rfl .nil) rfl rfl
        · have hm := ifB_f hb hm
          refine cj_skip ?_
          refine nj_seq ?_
          refine cj_seq ?_
          refine cj_reg ?_
          refine lp rfl (p_as rfl) ?_
          refine lj_seq ?_
          obtain rfl := Option.some.inj hm
          exact cj_rt () [] Tryd.results92 (.tmp rfl .nil) rfl rfl
theorem ok_slices_Compare_int_int (s0_ : SV) (a0 : (List Int)) (s1_ : SV) (a1 : (List Int)) {r : Int} (hm : m_slices_Compare_int_int a0 a1 = some r) :
    Ctr Tryd.prog 64 [s0_.v, s1_.v].toArray ([] : List Ent) [RdS R3 (SV.v s0_) a0, RdS R3 (SV.v s1_) a1] (X := Unit) (fun _ => .int .i64 r) (fun _ => []) := by
  unfold m_slices_Compare_int_int at hm
  refine ctr_mk (vs := [(0, s0_.v), (1, s1_.v)]) Tryd.func64 rfl Tryd.ntmps64 rfl ⟨rfl, rfl, trivial⟩ (fun w0 A => ?_)
  refine cj_seq ?_
  refine cj_reg ?_
  refine lp rfl (p_as rfl) ?_
  refine lj_seq ?_
  refine cj_seq ?_
  refine cj_seq ?_
  refine cj_reg ?_
  refine lp rfl (p_mv rfl) ?_
  refine lp rfl (p_len Tryd.underlying22 rfl (.ro 0 rfl)) ?_
  refine lp rfl (p_mv rfl) ?_
  refine lj_seq ?_
  obtain ⟨f7, hf7, hm⟩ := bindS hm
  refine cj_range (γ := Unit) (m := (a0.length : Int)) hf7 () (fun u4 g5 => [(0, s0_.v), (1, s1_.v), (4, .int .i64 0), (9, s0_.v)]) (fun u4 g5 => Sat w0 (keys ([] : List Ent)) A [.ro (RdS R3 (SV.v s0_) a0), .ro (RdS R3 (SV.v s1_) a1)]) ⟨rfl, rfl, rfl, rfl, rfl, rfl, trivial⟩ (fun _ h => h.picks [0, 0] rfl) (nat_lt _) (fun _ h => (FactAt.get (.ro 0 rfl) h).1) (fun _ _ => ⟨rfl, rfl, rfl, rfl⟩) ⟨rfl, rfl, rfl, rfl, rfl⟩ rfl rfl rfl (fun u4 g5 e => ?_) (fun aftk6 i1 x2 u4 g5 k6 hx3 hs J hJk6 hBk6 hX I cnk6 => ?_)
  · have hm := Flow.fin_b e hm
    refine nj_seq ?_
    refine cj_seq ?_
    refine cj_seq ?_
    refine cj_reg ?_
    refine lp rfl (p_mv rfl) ?_
    refine lp rfl (p_len Tryd.underlying22 rfl (.ro 0 rfl)) ?_
    refine lp rfl (p_mv rfl) ?_
    refine lp rfl (p_len Tryd.underlying22 rfl (.ro 1 rfl)) ?_
    refine lp rfl (p_lss rfl rfl) ?_
    refine lj_seq ?_
    refine cj_if (b := decide ((a0.length : Int) < (a1.length : Int))) rfl (fun hb => ?_) (fun hb => ?_)
    · have hm := ifB_t hb hm
      refine cj_seq ?_
      refine cj_reg ?_
      refine lp rfl (p_as rfl) ?_
      refine lj_seq ?_
      obtain rfl := Option.some.inj hm
      exact cj_rt () [] Tryd.results64 (.tmp rfl .nil) rfl rfl
    · have hm := ifB_f hb hm
      refine cj_skip ?_
      refine nj_seq ?_
      refine cj_seq ?_
      refine cj_reg ?_
      refine lp rfl (p_as rfl) ?_
      refine lj_seq ?_
      obtain rfl := Option.some.inj hm
      exact cj_rt () [] Tryd.results64 (.tmp rfl .nil) rfl rfl
  · have hRk6 : ∀ t, k6 = .ret t → some t = some r := fun t e => by rw [hX t e] at hm; exact hm
    have hm := hs
    refine cj_seq ?_
    refine cj_reg ?_
    refine lp rfl (p_mv rfl) ?_
    refine lp rfl (p_idx Tryd.underlying22 ty3 rfl rfl (.ro 0 rfl) (getI_nat.trans hx3)) ?_
    refine lp rfl (p_lde (o := 0) ty3 rfl rfl (.ro 0 rfl) hx3 rfl) ?_
    refine lp rfl (p_as rfl) ?_
    refine lp rfl (p_as rfl) ?_
    refine lj_seq ?_
    refine cj_seq ?_
    refine cj_seq ?_
    refine cj_reg ?_
    refine lp rfl (p_mv rfl) ?_
    refine lp rfl (p_mv rfl) ?_
    refine lp rfl (p_len Tryd.underlying22 rfl (.ro 1 rfl)) ?_
    refine lp rfl (p_geq rfl rfl) ?_
    refine lj_seq ?_
    refine cj_if (b := decide ((i1 : Int) ≥ (a1.length : Int))) rfl (fun hb => ?_) (fun hb => ?_)
    · have hm := ifB_t hb hm
      refine cj_seq ?_
      refine cj_reg ?_
      refine lp rfl (p_as rfl) ?_
      refine lj_seq ?_
      have hm := hRk6 _ (Option.some.inj hm).symm
      obtain rfl := Option.some.inj hm
      exact cj_rt () [] Tryd.results64 (.tmp rfl .nil) rfl rfl
    · have hm := ifB_f hb hm
      refine cj_skip ?_
      refine nj_seq ?_
      refine cj_seq ?_
      refine cj_reg ?_
      refine lp rfl (p_mv rfl) ?_
      refine lp rfl (p_mv rfl) ?_
      obtain ⟨e8, he8, hm⟩ := bindS hm
      refine lp rfl (p_idx Tryd.underlying22 ty3 rfl rfl (.ro 1 rfl) he8) ?_
      refine lp rfl (p_lde (o := 0) ty3 rfl rfl (.ro 1 rfl) (getI_spec he8).2 rfl) ?_
      refine lp rfl (p_as rfl) ?_
      refine lj_seq ?_
      refine cj_seq ?_
      refine cj_reg ?_
      refine lp rfl (p_mv rfl) ?_
      refine lp rfl (p_mv rfl) ?_
      obtain ⟨y9, hy9, hm⟩ := bindS hm
      refine r_call [] cf92 rfl rfl (ok_cmp_Compare_int x2 e8 hy9) rfl rfl .nil (fun _ => rfl) rfl (fun _ => ?_)
      refine lp rfl (p_as rfl) ?_
      refine lj_seq ?_
      refine cj_seq ?_
      refine cj_reg ?_
      refine lp rfl (p_mv rfl) ?_
      refine lp rfl (p_neq rfl rfl) ?_
      refine lj_seq ?_
      refine cj_if (b := y9 != 0) rfl (fun hb => ?_) (fun hb => ?_)
      · have hm := ifB_t hb hm
        refine cj_seq ?_
        refine cj_reg ?_
        refine lp rfl (p_mv rfl) ?_
        refine lp rfl (p_as rfl) ?_
        refine lj_seq ?_
        have hm := hRk6 _ (Option.some.inj hm).symm
        obtain rfl := Option.some.inj hm
        exact cj_rt () [] Tryd.results64 (.tmp rfl .nil) rfl rfl
      · have hm := ifB_f hb hm
        refine cj_skip ?_
        refine nj_blk ?_
        exact cnk6 _ _ () () (hJk6 _ (Option.some.inj hm).symm) ⟨rfl, rfl, rfl, rfl, rfl, rfl, trivial⟩ (fun _ h => h.picks [0, 0] rfl)
theorem ok_concert_Fitting (a0 : TProgram) (s0_0_ : SV) (xg0_0_ : List (TItem × SV)) (a1 : Int) {r : (List ByteArray) × Int} (hm : m_concert_Fitting a0 a1 = some r) :
    Ctr Tryd.prog 36 [.agg [s0_0_.v, .int .i64 a0.Change, .int .i64 a0.Clap, .int .i64 a0.Break, .int .i64 a0.Half].toArray, .int .i64 a1].toArray ([] : List Ent) [Lk N63 a0.Items xg0_0_, RdS N63.R (SV.v s0_0_) xg0_0_] (X := SV) (fun s => .tuple [s.v, .int .i64 r.2].toArray) (fun s => [.row R9 (SV.v s) r.1]) := by
  unfold m_concert_Fitting at hm
  refine ctr_mk (vs := [(0, .agg [s0_0_.v, .int .i64 a0.Change, .int .i64 a0.Clap, .int .i64 a0.Break, .int .i64 a0.Half].toArray), (1, .int .i64 a1)]) Tryd.func36 rfl Tryd.ntmps36 rfl ⟨rfl, rfl, trivial⟩ (fun w0 A => ?_)
  refine cj_pure (F := Lk N63 a0.Items xg0_0_) (.ro 0 rfl) (fun _ h => h.1) (fun hL0_0_ => ?_)
  refine cj_seq ?_
  refine cj_reg ?_
  refine r_bx (cs := [s0_0_.v, .int .i64 a0.Change, .int .i64 a0.Clap, .int .i64 a0.Break, .int .i64 a0.Half]) rfl rfl rfl (fun b1 => ?_)
  refine lp rfl (p_as rfl) ?_
  refine lp rfl (p_as rfl) ?_
  refine lj_seq ?_
  refine cj_seq ?_
  refine cj_seq ?_
  refine cj_reg ?_
  refine lp rfl (p_lbw ty28 rfl (j := 0) rfl rfl) ?_
  obtain ⟨y2, hy2, hm⟩ := bindS hm
  refine r_call [] cf18 rfl rfl (ok_concert_CheckProgram a0 s0_0_ xg0_0_ hy2) rfl rfl (.cons (.ro 1 rfl) (.cons (.ro 2 rfl) .nil)) (fun _ => rfl) rfl (fun _ => ?_)
  refine lp rfl (p_as rfl) ?_
  refine lj_seq ?_
  refine cj_seq ?_
  refine cj_reg ?_
  refine lp rfl (p_mv rfl) ?_
  refine lp rfl (p_neq rfl rfl) ?_
  refine lj_seq ?_
  refine cj_if (b := y2 != 0) rfl (fun hb => ?_) (fun hb => ?_)
  · have hm := ifB_t hb hm
    refine cj_seq ?_
    refine cj_reg ?_
    refine lp rfl (p_mv rfl) ?_
    refine lp rfl (p_as rfl) ?_
    refine lp rfl (p_as rfl) ?_
    refine lj_seq ?_
    obtain rfl := Option.some.inj hm
    refine cj_nil R9 ?_
    exact cj_rt nilS [0] Tryd.results36 (.tmp rfl (.tmp rfl .nil)) rfl rfl
  · have hm := ifB_f hb hm
    refine cj_skip ?_
    refine nj_seq ?_
    refine cj_seq ?_
    refine cj_seq ?_
    refine cj_reg ?_
    refine lp rfl (p_fab fl28_0 rfl) ?_
    refine lp rfl (p_lbs ty26 rfl (j := 0) rfl rfl) ?_
    refine lp rfl (p_lenG hL0_0_ Tryd.underlying26 rfl (.ro 2 rfl)) ?_
    refine lp rfl (p_gtr rfl rfl) ?_
    refine lj_seq ?_
    refine cj_if (b := decide ((a0.Items.length : Int) > 16)) rfl (fun hb => ?_) (fun hb => ?_)
    · have hm := ifB_t hb hm
      refine cj_seq ?_
      refine cj_reg ?_
      refine lp rfl (p_as rfl) ?_
      refine lp rfl (p_as rfl) ?_
      refine lj_seq ?_
      obtain rfl := Option.some.inj hm
      refine cj_nil R9 ?_
      exact cj_rt nilS [0] Tryd.results36 (.tmp rfl (.tmp rfl .nil)) rfl rfl
    · have hm := ifB_f hb hm
      refine cj_skip ?_
      refine nj_seq ?_
      refine cj_seq ?_
      refine cj_seq ?_
      refine cj_reg ?_
      refine lp rfl (p_mv rfl) ?_
      obtain ⟨y5, hy5, hm⟩ := bindS hm
      refine r_call [] cf52 rfl rfl (ok_kit_Outside a1 0 5184000000 hy5) rfl rfl .nil (fun _ => rfl) rfl (fun _ => ?_)
      refine lj_seq ?_
      refine cj_if (b := y5) rfl (fun hb => ?_) (fun hb => ?_)
      · have hm := ifB_t hb hm
        refine cj_seq ?_
        refine cj_reg ?_
        refine lp rfl (p_as rfl) ?_
        refine lp rfl (p_as rfl) ?_
        refine lj_seq ?_
        obtain rfl := Option.some.inj hm
        refine cj_nil R9 ?_
        exact cj_rt nilS [0] Tryd.results36 (.tmp rfl (.tmp rfl .nil)) rfl rfl
      · have hm := ifB_f hb hm
        refine cj_skip ?_
        refine nj_seq ?_
        refine cj_seq ?_
        refine cj_reg ?_
        refine lp rfl (p_as rfl) ?_
        refine lj_seq ?_
        refine cj_seq ?_
        refine cj_reg ?_
        refine lp rfl (p_as rfl) ?_
        refine lj_seq ?_
        refine cj_seq ?_
        refine cj_seq ?_
        refine cj_reg ?_
        refine lp rfl (p_fab fl28_0 rfl) ?_
        refine lp rfl (p_lbs ty26 rfl (j := 0) rfl rfl) ?_
        refine lp rfl (p_lenG hL0_0_ Tryd.underlying26 rfl (.ro 2 rfl)) ?_
        obtain ⟨z7, hz7, hm⟩ := bindS hm
        refine lp rfl (p_shl hz7 rfl rfl) ?_
        refine lp rfl (p_mv rfl) ?_
        refine lj_seq ?_
        refine cj_nil R3 ?_
        obtain ⟨L59, hL59, hm⟩ := bindS hm
        obtain ⟨f15, hf15, hm⟩ := bindS hm
        refine cj_range (γ := SV) (m := z7) hf15 nilS (fun u12 g13 => [(1, .int .i64 a1), (2, .pointer (some ⟨b1, 0, none⟩)), (4, .slice none 0 0), (5, .int .i64 0), (7, g13.v), (8, .int .i64 u12.1)]) (fun u12 g13 => Sat w0 (keys ([] : List Ent)) A [.box b1 28 [s0_0_.v, .int .i64 a0.Change, .int .i64 a0.Clap, .int .i64 a0.Break, .int .i64 a0.Half], .ro (Lk N63 a0.Items xg0_0_), .ro (RdS N63.R (SV.v s0_0_) xg0_0_), .row R3 (SV.v g13) u12.2]) ⟨rfl, rfl, rfl, rfl, rfl, rfl, rfl, rfl, trivial⟩ (fun _ h => h.picks [1, 1, 1, 0] rfl) (rangeI_spec hL59).1 (fun _ _ => (rangeI_spec hL59).2) (fun _ _ => ⟨rfl, rfl, rfl, rfl⟩) ⟨rfl, rfl, rfl, rfl, rfl⟩ rfl rfl rfl (fun u12 g13 e => ?_) (fun aftk14 i8 x9 u12 g13 k14 hx10 hs J hJk14 hBk14 hX I cnk14 => ?_)
        · have hm := Flow.fin_b e hm
          refine nj_seq ?_
          refine cj_seq ?_
          refine cj_reg ?_
          refine lp rfl (p_as rfl) ?_
          refine lj_seq ?_
          refine cj_seq ?_
          refine cj_seq ?_
          refine cj_reg ?_
          refine lp rfl (p_mv rfl) ?_
          refine lp rfl (p_len Tryd.underlying22 rfl (.row 3 rfl)) ?_
          refine lp rfl (p_mv rfl) ?_
          refine lj_seq ?_
          refine cj_nil R9 ?_
          obtain ⟨f52, hf52, hm⟩ := bindS hm
          refine cj_range (γ := SV) (m := (u12.2.length : Int)) hf52 nilS (fun u49 g50 => [(2, .pointer (some ⟨b1, 0, none⟩)), (4, .slice none 0 0), (5, .int .i64 0), (16, g50.v), (97, g13.v)]) (fun u49 g50 => Sat w0 (keys ([] : List Ent)) A [.box b1 28 [s0_0_.v, .int .i64 a0.Change, .int .i64 a0.Clap, .int .i64 a0.Break, .int .i64 a0.Half], .ro (Lk N63 a0.Items xg0_0_), .ro (RdS N63.R (SV.v s0_0_) xg0_0_), .row R3 (SV.v g13) u12.2, .row R9 (SV.v g50) u49]) ⟨rfl, rfl, rfl, rfl, rfl, rfl, rfl, trivial⟩ (fun _ h => h.picks [1, 1, 1, 1, 0] rfl) (nat_lt _) (fun _ h => (FactAt.get (.row 4 rfl) h).1) (fun _ _ => ⟨rfl, rfl, rfl, rfl⟩) ⟨rfl, rfl, rfl, rfl, rfl⟩ rfl rfl rfl (fun u49 g50 e => ?_) (fun aftk51 i45 x46 u49 g50 k51 hx47 hs J hJk51 hBk51 hX I cnk51 => ?_)
          · have hm := Flow.fin_b e hm
            refine nj_seq ?_
            refine cj_seq ?_
            refine cj_reg ?_
            refine lp rfl (p_mv rfl) ?_
            refine lp rfl (p_as rfl) ?_
            refine lp rfl (p_as rfl) ?_
            refine lj_seq ?_
            obtain rfl := Option.some.inj hm
            exact cj_rt g50 [4] Tryd.results36 (.tmp rfl (.tmp rfl .nil)) rfl rfl
          · have hRk51 : ∀ t, k51 = .ret t → some t = some r := fun t e => by rw [hX t e] at hm; exact hm
            have hm := hs
            refine cj_seq ?_
            refine cj_reg ?_
            refine lp rfl (p_idx Tryd.underlying22 ty3 rfl rfl (.row 3 rfl) (getI_nat.trans hx47)) ?_
            refine lp rfl (p_lde (o := 0) ty3 rfl rfl (.row 3 rfl) hx47 rfl) ?_
            refine lp rfl (p_as rfl) ?_
            refine lj_seq ?_
            refine cj_reg ?_
            refine lp rfl (p_mv rfl) ?_
            refine lp rfl (p_fab fl28_0 rfl) ?_
            refine lp rfl (p_lbs ty26 rfl (j := 0) rfl rfl) ?_
            refine lp rfl (p_mv rfl) ?_
            obtain ⟨e54, he54, hm⟩ := bindS hm
            obtain ⟨ge54, he54G⟩ := lk_getI hL0_0_ he54
            refine lp rfl (p_idx Tryd.underlying26 ty63 rfl rfl (.ro 2 rfl) he54G) ?_
            refine lp rfl (p_fae fl63_0 rfl (.ro 2 rfl) (getI_spec he54G).2) ?_
            refine lp rfl (p_lde (o := 0) ty9 rfl rfl (.ro 2 rfl) (getI_spec he54G).2 rfl) ?_
            refine r_bs R9 [e54.Key] rfl rfl rfl (fun _ => by kernel_rfl) rfl (fun s55 => ?_)
            obtain ⟨q56, hq56, hm⟩ := bindS hm
            refine r_app (k := 5) Tryd.underlying49 ty9 rfl rfl rfl rfl (.row 0 rfl) hq56 rfl (fun s57 => ?_)
            refine lp rfl (p_as rfl) ?_
            refine lj_nil ?_
            refine nj_blk ?_
            exact cnk51 _ _ q56 s57 (hJk51 _ (Option.some.inj hm).symm) ⟨rfl, rfl, rfl, rfl, rfl, rfl, rfl, trivial⟩ (fun _ h => h.picks [1, 1, 1, 1, 1] rfl)
        · have hRk14 : ∀ t, k14 = .ret t → some t = some r := fun t e => by rw [hX t e] at hm; exact hm
          have hm := hs
          refine cj_seq ?_
          refine cj_reg ?_
          refine lp rfl (p_mv rfl) ?_
          refine lp rfl (p_as rfl) ?_
          refine lj_seq ?_
          refine cj_seq ?_
          refine cj_reg ?_
          refine lp rfl (p_as rfl) ?_
          refine lj_seq ?_
          refine cj_seq ?_
          refine cj_reg ?_
          refine lp rfl (p_as rfl) ?_
          refine lj_seq ?_
          refine cj_seq ?_
          refine cj_seq ?_
          refine cj_reg ?_
          refine lp rfl (p_fab fl28_0 rfl) ?_
          refine lp rfl (p_lbs ty26 rfl (j := 0) rfl rfl) ?_
          refine lp rfl (p_lenG hL0_0_ Tryd.underlying26 rfl (.ro 2 rfl)) ?_
          refine lp rfl (p_mv rfl) ?_
          refine lj_seq ?_
          refine cj_fact (F := Lk N63 [] []) (.nilL N63) ?_
          refine cj_nil N63.R ?_
          refine cj_nil R3 ?_
          obtain ⟨f25, hf25, hm⟩ := bindS hm
          refine cj_range (γ := (SV × List (TItem × SV) × SV)) (m := (a0.Items.length : Int)) hf25 (nilS, [], nilS) (fun u22 g23 => [(1, .int .i64 a1), (2, .pointer (some ⟨b1, 0, none⟩)), (4, .slice none 0 0), (5, .int .i64 0), (7, g13.v), (8, .int .i64 u12.1), (9, .int .i64 (i8 : Int)), (10, g23.1.v), (11, g23.2.2.v), (33, .int .i64 z7), (34, .int .i64 (i8 : Int)), (38, s0_0_.v)]) (fun u22 g23 => Sat w0 (keys ([] : List Ent)) A [.box b1 28 [s0_0_.v, .int .i64 a0.Change, .int .i64 a0.Clap, .int .i64 a0.Break, .int .i64 a0.Half], .ro (Lk N63 a0.Items xg0_0_), .ro (RdS N63.R (SV.v s0_0_) xg0_0_), .row R3 (SV.v g13) u12.2, .row N63.R (SV.v g23.1) g23.2.1, .ro (Lk N63 u22.1 g23.2.1), .row R3 (SV.v g23.2.2) u22.2]) ⟨rfl, rfl, rfl, rfl, rfl, rfl, rfl, rfl, rfl, rfl, rfl, rfl, rfl, rfl, trivial⟩ (fun _ h => h.picks [3, 3, 3, 3, 1, 1, 0] rfl) (nat_lt _) (fun _ h => by have h1 := (FactAt.get (.ro 5 rfl) h).1; rw [lk_len hL0_0_] at h1; exact h1) (fun _ _ => ⟨rfl, rfl, rfl, rfl⟩) ⟨rfl, rfl, rfl, rfl, rfl⟩ rfl rfl rfl (fun u22 g23 e => ?_) (fun aftk24 i17 x18 u22 g23 k24 hx19 hs J hJk24 hBk24 hX I cnk24 => ?_)
          · have hm := Flow.fin_b e hm
            refine nj_pure (F := Lk N63 u22.1 g23.2.1) (.ro 5 rfl) (fun _ h => h.1) (fun hLu22_K37 => ?_)
            refine nj_seq ?_
            refine cj_seq ?_
            refine cj_reg ?_
            refine lp rfl (p_lbw ty28 rfl (j := 0) rfl rfl) ?_
            refine lp rfl (p_mv rfl) ?_
            obtain ⟨y39, hy39, hm⟩ := bindS hm
            refine r_call [] cf62 rfl rfl (ok_concert_longOf a0 s0_0_ xg0_0_ g23.1 g23.2.1 u22.1 hy39) rfl rfl (.cons (.ro 1 rfl) (.cons (.ro 2 rfl) (.cons (.ro 5 rfl) (.cons (.row 4 rfl) .nil)))) (fun _ => rfl) rfl (fun _ => ?_)
            refine lp rfl (p_as rfl) ?_
            refine lj_seq ?_
            refine cj_seq ?_
            refine cj_reg ?_
            refine lp rfl (p_mv rfl) ?_
            refine lp rfl (p_len Tryd.underlying22 rfl (.row 6 rfl)) ?_
            refine lp rfl (p_mv rfl) ?_
            refine lp rfl (p_len Tryd.underlying22 rfl (.row 3 rfl)) ?_
            refine lp rfl (p_sub rfl rfl) ?_
            refine lp rfl (p_as rfl) ?_
            refine lj_seq ?_
            refine cj_seq ?_
            refine cj_reg ?_
            obtain ⟨k42, hk42, hm⟩ := bindS hm
            have hRk42 : ∀ t, k42 = .inr t → some t = some k14 := fun t e => by rw [e] at hm; exact hm
            refine lj_join (σ := Bool) (γ := Unit) (fun u40 => k42 = .inl u40) (fun u40 g41 => [(1, .int .i64 a1), (2, .pointer (some ⟨b1, 0, none⟩)), (4, .slice none 0 0), (5, .int .i64 0), (7, g13.v), (8, .int .i64 u12.1), (11, g23.2.2.v), (14, .int .i64 y39), (33, .int .i64 z7), (34, .int .i64 (i8 : Int)), (93, .bool u40)]) (fun u40 g41 => Sat w0 (keys ([] : List Ent)) A [.box b1 28 [s0_0_.v, .int .i64 a0.Change, .int .i64 a0.Clap, .int .i64 a0.Break, .int .i64 a0.Half], .ro (Lk N63 a0.Items xg0_0_), .ro (RdS N63.R (SV.v s0_0_) xg0_0_), .row R3 (SV.v g13) u12.2, .row R3 (SV.v g23.2.2) u22.2]) (fun u40 g41 hq => ?_) (fun J cnk42 => ?_)
            · have hm := Sum.fin_l hq hm
              refine cj_if (b := u40) rfl (fun hb => ?_) (fun hb => ?_)
              · have hm := ifB_t hb hm
                refine cj_reg ?_
                refine lp rfl (p_mv rfl) ?_
                refine lp rfl (p_mv rfl) ?_
                refine lp rfl (p_as rfl) ?_
                refine lp rfl (p_as rfl) ?_
                refine lj_nil ?_
                refine nj_blk ?_
                exact cnk14 _ _ (y39, u22.2) g23.2.2 (hJk14 _ (Option.some.inj hm).symm) ⟨rfl, rfl, rfl, rfl, rfl, rfl, rfl, rfl, trivial⟩ (fun _ h => h.picks [0, 0, 0, 1] rfl)
              · have hm := ifB_f hb hm
                refine cj_skip ?_
                refine nj_blk ?_
                exact cnk14 _ _ (u12.1, u12.2) g13 (hJk14 _ (Option.some.inj hm).symm) ⟨rfl, rfl, rfl, rfl, rfl, rfl, rfl, rfl, trivial⟩ (fun _ h => h.picks [0, 0, 0, 0] rfl)
            · have hm := hk42
              refine lp rfl (p_mv rfl) ?_
              refine lp rfl (p_mv rfl) ?_
              refine lp rfl (p_leq rfl rfl) ?_
              refine lp rfl (p_mv rfl) ?_
              refine lcase (i := 70) (decide (y39 ≤ a1)) rfl (fun hb => ?_) (fun hb => ?_)
              · have hm := ifB_t hb hm
                refine lg true rfl rfl rfl ?_
                refine lp rfl (p_mv rfl) ?_
                refine lg true rfl rfl rfl ?_
                refine lp rfl (p_gtr rfl rfl) ?_
                refine lg true rfl rfl rfl ?_
                refine lp rfl (p_mv rfl) ?_
                refine lcase (i := 73) (decide ((w64 ((u22.2.length : Int) - (u12.2.length : Int))) > 0)) rfl (fun hb => ?_) (fun hb => ?_)
                · have hm := ifB_t hb hm
                  refine ls false rfl rfl rfl rfl ?_
                  refine ls false rfl rfl rfl rfl ?_
                  refine ls false rfl rfl rfl rfl ?_
                  refine lsu rfl rfl rfl rfl ?_
                  refine lsu rfl rfl rfl rfl ?_
                  refine lsu rfl rfl rfl rfl ?_
                  refine lsu rfl rfl rfl rfl ?_
                  refine lsu rfl rfl rfl rfl ?_
                  refine lsu rfl rfl rfl rfl ?_
                  refine lsu rfl rfl rfl rfl ?_
                  refine lsu rfl rfl rfl rfl ?_
                  refine lsu rfl rfl rfl rfl ?_
                  refine lsu rfl rfl rfl rfl ?_
                  refine lsu rfl rfl rfl rfl ?_
                  refine lsu rfl rfl rfl rfl ?_
                  refine lsu rfl rfl rfl rfl ?_
                  refine lsu rfl rfl rfl rfl ?_
                  refine ls false rfl rfl rfl rfl ?_
                  refine lg true rfl rfl rfl ?_
                  refine lp rfl (p_pkt rfl rfl) ?_
                  refine lp rfl (p_pkt rfl rfl) ?_
                  refine lj_nil ?_
                  exact cnk42 _ _ true () (Option.some.inj hm).symm ⟨rfl, rfl, rfl, rfl, rfl, rfl, rfl, rfl, rfl, rfl, rfl, trivial⟩ (fun _ h => h.picks [0, 0, 0, 0, 2] rfl)
                · have hm := ifB_f hb hm
                  refine lg false rfl rfl rfl ?_
                  refine lp rfl (p_mv rfl) ?_
                  refine lg false rfl rfl rfl ?_
                  refine lp rfl (p_eql rfl rfl) ?_
                  refine lg false rfl rfl rfl ?_
                  refine lp rfl (p_mv rfl) ?_
                  refine lcase (i := 76) ((w64 ((u22.2.length : Int) - (u12.2.length : Int))) == 0) rfl (fun hb => ?_) (fun hb => ?_)
                  · have hm := ifB_t hb hm
                    refine lg true rfl rfl rfl ?_
                    refine lp rfl (p_mv rfl) ?_
                    refine lg true rfl rfl rfl ?_
                    refine lp rfl (p_mv rfl) ?_
                    refine lg true rfl rfl rfl ?_
                    refine lp rfl (p_gtr rfl rfl) ?_
                    refine lg true rfl rfl rfl ?_
                    refine lp rfl (p_mv rfl) ?_
                    refine lcase (i := 80) (decide (y39 > u12.1)) rfl (fun hb => ?_) (fun hb => ?_)
                    · have hm := ifB_t hb hm
                      refine ls false rfl rfl rfl rfl ?_
                      refine ls false rfl rfl rfl rfl ?_
                      refine ls false rfl rfl rfl rfl ?_
                      refine ls false rfl rfl rfl rfl ?_
                      refine lsu rfl rfl rfl rfl ?_
                      refine lsu rfl rfl rfl rfl ?_
                      refine lsu rfl rfl rfl rfl ?_
                      refine lsu rfl rfl rfl rfl ?_
                      refine ls false rfl rfl rfl rfl ?_
                      refine lg true rfl rfl rfl ?_
                      refine lp rfl (p_pkt rfl rfl) ?_
                      refine lg false rfl rfl rfl ?_
                      refine lp rfl (p_pkt rfl rfl) ?_
                      refine lg true rfl rfl rfl ?_
                      refine lp rfl (p_pkf rfl rfl) ?_
                      refine lp rfl (p_pkt rfl rfl) ?_
                      refine lj_nil ?_
                      exact cnk42 _ _ true () (Option.some.inj hm).symm ⟨rfl, rfl, rfl, rfl, rfl, rfl, rfl, rfl, rfl, rfl, rfl, trivial⟩ (fun _ h => h.picks [0, 0, 0, 0, 2] rfl)
                    · have hm := ifB_f hb hm
                      refine lg false rfl rfl rfl ?_
                      refine lp rfl (p_mv rfl) ?_
                      refine lg false rfl rfl rfl ?_
                      refine lp rfl (p_mv rfl) ?_
                      refine lg false rfl rfl rfl ?_
                      refine lp rfl (p_eql rfl rfl) ?_
                      refine lg false rfl rfl rfl ?_
                      refine lp rfl (p_mv rfl) ?_
                      refine lcase (i := 84) (y39 == u12.1) rfl (fun hb => ?_) (fun hb => ?_)
                      · have hm := ifB_t hb hm
                        refine lg true rfl rfl rfl ?_
                        refine lp rfl (p_mv rfl) ?_
                        refine lg true rfl rfl rfl ?_
                        refine lp rfl (p_mv rfl) ?_
                        refine lg true rfl rfl rfl ?_
                        obtain ⟨y43, hy43, hm⟩ := bindS hm
                        refine r_call [] cf64 rfl rfl (ok_slices_Compare_int_int g23.2.2 u22.2 g13 u12.2 hy43) rfl rfl (.cons (.row 6 rfl) (.cons (.row 3 rfl) .nil)) (fun _ => rfl) rfl (fun _ => ?_)
                        refine lg true rfl rfl rfl ?_
                        refine lp rfl (p_lss rfl rfl) ?_
                        refine lg false rfl rfl rfl ?_
                        refine lp rfl (p_pkt rfl rfl) ?_
                        refine lg true rfl rfl rfl ?_
                        refine lp rfl (p_pkf rfl rfl) ?_
                        refine lg false rfl rfl rfl ?_
                        refine lp rfl (p_pkt rfl rfl) ?_
                        refine lg true rfl rfl rfl ?_
                        refine lp rfl (p_pkf rfl rfl) ?_
                        refine lp rfl (p_pkt rfl rfl) ?_
                        refine lj_nil ?_
                        exact cnk42 _ _ (decide (y43 < 0)) () (Option.some.inj hm).symm ⟨rfl, rfl, rfl, rfl, rfl, rfl, rfl, rfl, rfl, rfl, rfl, trivial⟩ (fun _ h => h.picks [0, 0, 0, 0, 2] rfl)
                      · have hm := ifB_f hb hm
                        refine ls true rfl rfl rfl rfl ?_
                        refine ls true rfl rfl rfl rfl ?_
                        refine ls true rfl rfl rfl rfl ?_
                        refine ls true rfl rfl rfl rfl ?_
                        refine lg false rfl rfl rfl ?_
                        refine lp rfl (p_pkf rfl rfl) ?_
                        refine lg true rfl rfl rfl ?_
                        refine lp rfl (p_pkf rfl rfl) ?_
                        refine lg false rfl rfl rfl ?_
                        refine lp rfl (p_pkt rfl rfl) ?_
                        refine lg true rfl rfl rfl ?_
                        refine lp rfl (p_pkf rfl rfl) ?_
                        refine lp rfl (p_pkt rfl rfl) ?_
                        refine lj_nil ?_
                        exact cnk42 _ _ false () (Option.some.inj hm).symm ⟨rfl, rfl, rfl, rfl, rfl, rfl, rfl, rfl, rfl, rfl, rfl, trivial⟩ (fun _ h => h.picks [0, 0, 0, 0, 2] rfl)
                  · have hm := ifB_f hb hm
                    refine ls true rfl rfl rfl rfl ?_
                    refine ls true rfl rfl rfl rfl ?_
                    refine ls true rfl rfl rfl rfl ?_
                    refine ls true rfl rfl rfl rfl ?_
                    refine lsu rfl rfl rfl rfl ?_
                    refine lsu rfl rfl rfl rfl ?_
                    refine lsu rfl rfl rfl rfl ?_
                    refine lsu rfl rfl rfl rfl ?_
                    refine lsu rfl rfl rfl rfl ?_
                    refine lsu rfl rfl rfl rfl ?_
                    refine lsu rfl rfl rfl rfl ?_
                    refine lsu rfl rfl rfl rfl ?_
                    refine lsu rfl rfl rfl rfl ?_
                    refine ls true rfl rfl rfl rfl ?_
                    refine lg false rfl rfl rfl ?_
                    refine lp rfl (p_pkf rfl rfl) ?_
                    refine lg true rfl rfl rfl ?_
                    refine lp rfl (p_pkf rfl rfl) ?_
                    refine lp rfl (p_pkt rfl rfl) ?_
                    refine lj_nil ?_
                    exact cnk42 _ _ false () (Option.some.inj hm).symm ⟨rfl, rfl, rfl, rfl, rfl, rfl, rfl, rfl, rfl, rfl, rfl, trivial⟩ (fun _ h => h.picks [0, 0, 0, 0, 2] rfl)
              · have hm := ifB_f hb hm
                refine ls true rfl rfl rfl rfl ?_
                refine ls true rfl rfl rfl rfl ?_
                refine ls true rfl rfl rfl rfl ?_
                refine lsu rfl rfl rfl rfl ?_
                refine lsu rfl rfl rfl rfl ?_
                refine lsu rfl rfl rfl rfl ?_
                refine lsu rfl rfl rfl rfl ?_
                refine lsu rfl rfl rfl rfl ?_
                refine lsu rfl rfl rfl rfl ?_
                refine lsu rfl rfl rfl rfl ?_
                refine lsu rfl rfl rfl rfl ?_
                refine lsu rfl rfl rfl rfl ?_
                refine lsu rfl rfl rfl rfl ?_
                refine lsu rfl rfl rfl rfl ?_
                refine lsu rfl rfl rfl rfl ?_
                refine lsu rfl rfl rfl rfl ?_
                refine lsu rfl rfl rfl rfl ?_
                refine lsu rfl rfl rfl rfl ?_
                refine lsu rfl rfl rfl rfl ?_
                refine lsu rfl rfl rfl rfl ?_
                refine lsu rfl rfl rfl rfl ?_
                refine ls true rfl rfl rfl rfl ?_
                refine lp rfl (p_pkf rfl rfl) ?_
                refine lj_nil ?_
                exact cnk42 _ _ false () (Option.some.inj hm).symm ⟨rfl, rfl, rfl, rfl, rfl, rfl, rfl, rfl, rfl, rfl, rfl, trivial⟩ (fun _ h => h.picks [0, 0, 0, 0, 2] rfl)
          · have hRk24 : ∀ t, k24 = .ret t → some t = some k14 := fun t e => by rw [hX t e] at hm; exact hm
            have hm := hs
            refine cj_pure (F := Lk N63 u22.1 g23.2.1) (.ro 5 rfl) (fun _ h => h.1) (fun hLu22_K26 => ?_)
            refine cj_seq ?_
            refine cj_reg ?_
            refine lp rfl (p_mv rfl) ?_
            obtain ⟨gx18, hx19G⟩ := lk_get hL0_0_ hx19
            refine lp rfl (p_idx Tryd.underlying26 ty63 rfl rfl (.ro 2 rfl) (getI_nat.trans hx19G)) ?_
            refine lp rfl (p_leaN (cs := [.string x18.Key, .string x18.Places, .int .i64 x18.Long, gx18.v]) ty63 rfl (.ro 2 rfl) hx19G rfl) ?_
            refine r_al ty63 rfl (fun b28 => ?_)
            refine lp rfl (p_as rfl) ?_
            refine r_sb (vs := [.string x18.Key, .string x18.Places, .int .i64 x18.Long, gx18.v]) (j := 0) ty63 rfl rfl rfl rfl rfl rfl rfl ?_
            refine lj_seq ?_
            refine cj_seq ?_
            refine cj_reg ?_
            refine lp rfl (p_mv rfl) ?_
            refine lp rfl (p_mv rfl) ?_
            obtain ⟨z29, hz29, hm⟩ := bindS hm
            refine lp rfl (p_shr hz29 rfl rfl) ?_
            refine lp rfl (p_and rfl rfl) ?_
            refine lp rfl (p_eql rfl rfl) ?_
            refine lj_seq ?_
            refine cj_if (b := (andI z29 1) == 1) rfl (fun hb => ?_) (fun hb => ?_)
            · have hm := ifB_t hb hm
              refine cj_seq ?_
              refine cj_reg ?_
              refine lp rfl (p_mv rfl) ?_
              refine lp rfl (p_lbw ty63 rfl (j := 0) rfl rfl) ?_
              refine r_fact (F := Lk N63 [x18] [(x18, gx18)]) (.imp (.and (.imp (.ro 2 rfl) (fun _ h => (Lk.at_ h hx19G))) (.nilL N63)) (fun _ h => Lk.cons h.1 h.2)) ?_
              refine r_bs N63.R [(x18, gx18)] rfl rfl rfl (fun _ => by kernel_rfl) rfl (fun s30 => ?_)
              obtain ⟨q31, hq31, hm⟩ := bindS hm
              refine r_fact (F := Lk N63 q31 (g23.2.1 ++ [(x18, gx18)])) (.imp (.and (.ro 8 rfl) (.ro 1 rfl)) (fun _ h => Lk.app hq31 h.1 h.2)) ?_
              refine r_app (k := 8) Tryd.underlying26 ty63 rfl rfl rfl rfl (.row 1 rfl) (lk_app hq31 hLu22_K26 rfl) rfl (fun s32 => ?_)
              refine lp rfl (p_as rfl) ?_
              refine lj_seq ?_
              refine cj_reg ?_
              refine lp rfl (p_mv rfl) ?_
              refine lp rfl (p_mv rfl) ?_
              refine r_bs R3 [(i17 : Int)] rfl rfl rfl (fun _ => by kernel_rfl) rfl (fun s34 => ?_)
              obtain ⟨q35, hq35, hm⟩ := bindS hm
              refine r_app (k := 11) Tryd.underlying22 ty3 rfl rfl rfl rfl (.row 0 rfl) hq35 rfl (fun s36 => ?_)
              refine lp rfl (p_as rfl) ?_
              refine lj_nil ?_
              refine nj_blk ?_
              exact cnk24 _ _ (q31, q35) (s32, (g23.2.1 ++ [(x18, gx18)]), s36) (hJk24 _ (Option.some.inj hm).symm) ⟨rfl, rfl, rfl, rfl, rfl, rfl, rfl, rfl, rfl, rfl, rfl, rfl, rfl, rfl, trivial⟩ (fun _ h => h.picks [5, 5, 5, 5, 5, 1, 5] rfl)
            · have hm := ifB_f hb hm
              refine cj_skip ?_
              refine nj_blk ?_
              exact cnk24 _ _ (u22.1, u22.2) (g23.1, g23.2.1, g23.2.2) (hJk24 _ (Option.some.inj hm).symm) ⟨rfl, rfl, rfl, rfl, rfl, rfl, rfl, rfl, rfl, rfl, rfl, rfl, rfl, rfl, trivial⟩ (fun _ h => h.picks [1, 1, 1, 1, 1, 1, 1] rfl)
theorem ok_concert_Encores_1 (a0 : Tconcert_again) (a1 : Tconcert_again) {r : Int} (hm : m_concert_Encores_1 a0 a1 = some r) :
    Ctr Tryd.prog 76 [.agg (R106.enc a0).toArray, .agg (R106.enc a1).toArray].toArray ([] : List Ent) [] (X := Unit) (fun _ => .int .i64 r) (fun _ => []) := by
  unfold m_concert_Encores_1 at hm
  refine ctr_mk (vs := [(0, .agg (R106.enc a0).toArray), (1, .agg (R106.enc a1).toArray)]) Tryd.func76 rfl Tryd.ntmps76 rfl ⟨rfl, rfl, trivial⟩ (fun w0 A => ?_)
  refine cj_seq ?_
  refine cj_reg ?_
  refine r_bx (cs := [.string a0.key, .int .i64 a0.long_]) rfl rfl rfl (fun b1 => ?_)
  refine r_bx (cs := [.string a1.key, .int .i64 a1.long_]) rfl rfl rfl (fun b2 => ?_)
  refine lp rfl (p_as rfl) ?_
  refine lj_seq ?_
  refine cj_seq ?_
  refine cj_reg ?_
  refine lp rfl (p_fab fl106_1 rfl) ?_
  refine lp rfl (p_lbs ty3 rfl (j := 0) rfl rfl) ?_
  refine lp rfl (p_fab fl106_1 rfl) ?_
  refine lp rfl (p_lbs ty3 rfl (j := 1) rfl rfl) ?_
  refine lp rfl (p_sub rfl rfl) ?_
  refine lp rfl (p_as rfl) ?_
  refine lj_seq ?_
  obtain rfl := Option.some.inj hm
  exact cj_rt () [] Tryd.results76 (.tmp rfl .nil) rfl rfl
theorem ok_slices_insertionSortCmpFunc_concert_again__concert_Encores_1 (s0_ : SV) (a0 : (List Tconcert_again)) (a1 : Int) (a2 : Int) {r : (List Tconcert_again)} (hm : m_slices_insertionSortCmpFunc_concert_again__concert_Encores_1 a0 a1 a2 = some r) :
    Ctr Tryd.prog 112 [s0_.v, .int .i64 a1, .int .i64 a2, .func (.func 76) #[] [].toArray].toArray [.row R106 (SV.v s0_) a0] [] (X := Unit) (fun _ => .tuple [].toArray) (fun _ => [.row R106 (SV.v s0_) r]) := by
  unfold m_slices_insertionSortCmpFunc_concert_again__concert_Encores_1 at hm
  refine ctr_mk (vs := [(0, s0_.v), (1, .int .i64 a1), (2, .int .i64 a2), (3, .func (.func 76) #[] [].toArray)]) Tryd.func112 rfl Tryd.ntmps112 rfl ⟨rfl, rfl, rfl, rfl, trivial⟩ (fun w0 A => ?_)
  refine cj_seq ?_
  refine cj_reg ?_
  refine lp rfl (p_mv rfl) ?_
  refine lp rfl (p_add rfl rfl) ?_
  refine lp rfl (p_as rfl) ?_
  refine lj_seq ?_
  obtain ⟨f4, hf4, hm⟩ := bindS hm
  refine cj_whileA (γ := Unit) hf4 () (fun u1 g2 => [(0, s0_.v), (1, .int .i64 a1), (2, .int .i64 a2), (3, .func (.func 76) #[] [].toArray), (8, .int .i64 u1.1)]) (fun u1 g2 => Sat w0 (keys [.row R106 (SV.v s0_) a0]) A [.row R106 (SV.v s0_) u1.2]) ⟨rfl, rfl, rfl, rfl, rfl, trivial⟩ (fun _ h => h.picks [0] rfl) (fun u1 g2 e => ?_) (fun aftk3 u1 g2 k3 hs J hJk3 hBk3 hX I cnk3 => ?_)
  · have hm := Flow.fin_b e hm
    obtain rfl := Option.some.inj hm
    exact nj_rt () [0] Tryd.results112 .nil rfl rfl
  · have hRk3 : ∀ t, k3 = .ret t → some t = some r := fun t e => by rw [hX t e] at hm; exact hm
    have hm := hs
    refine cj_seq ?_
    refine cj_seq ?_
    refine cj_reg ?_
    refine lp rfl (p_mv rfl) ?_
    refine lp rfl (p_mv rfl) ?_
    refine lp rfl (p_lss rfl rfl) ?_
    refine lj_seq ?_
    refine cj_if (b := decide (u1.1 < a2)) rfl (fun hb => ?_) (fun hb => ?_)
    · have hm := ifB_t hb hm
      refine cj_skip ?_
      refine nj_seq ?_
      refine cj_seq ?_
      refine cj_blk ?_
      refine cj_seq ?_
      refine cj_reg ?_
      refine lp rfl (p_mv rfl) ?_
      refine lp rfl (p_as rfl) ?_
      refine lj_seq ?_
      obtain ⟨f8, hf8, hm⟩ := bindS hm
      refine cj_whileA (γ := Unit) hf8 () (fun u5 g6 => [(0, s0_.v), (1, .int .i64 a1), (2, .int .i64 a2), (3, .func (.func 76) #[] [].toArray), (8, .int .i64 u1.1), (9, .int .i64 u5.1)]) (fun u5 g6 => Sat w0 (keys [.row R106 (SV.v s0_) a0]) A [.row R106 (SV.v s0_) u5.2]) ⟨rfl, rfl, rfl, rfl, rfl, rfl, trivial⟩ (fun _ h => h.picks [0] rfl) (fun u5 g6 e => ?_) (fun aftk7 u5 g6 k7 hs J hJk7 hBk7 hX I cnk7 => ?_)
      · have hm := Flow.fin_b e hm
        refine nj_blk ?_
        refine nj_seq ?_
        refine cj_reg ?_
        refine lp rfl (p_mv rfl) ?_
        refine lp rfl (p_add rfl rfl) ?_
        refine lp rfl (p_as rfl) ?_
        refine lj_nil ?_
        exact cnk3 _ _ (w64 (u1.1 + 1), u5.2) () (hJk3 _ (Option.some.inj hm).symm) ⟨rfl, rfl, rfl, rfl, rfl, trivial⟩ (fun _ h => h.picks [0] rfl)
      · have hRk7 : ∀ t, k7 = .ret t → some t = some k3 := fun t e => by rw [hX t e] at hm; exact hm
        have hm := hs
        refine cj_seq ?_
        refine cj_seq ?_
        refine cj_quiet (by kernel_rfl) (by kernel_rfl) ?_
        refine q_p rfl (p_mv rfl) ?_
        refine q_p rfl (p_mv rfl) ?_
        refine q_p rfl (p_gtr rfl rfl) ?_
        refine q_p rfl (p_mv rfl) ?_
        refine q_case (i := 21) (decide (u5.1 > a1)) rfl (fun hb => ?_) (fun hb => ?_)
        · have hm := ifB_t hb hm
          refine q_g true rfl rfl rfl ?_
          refine q_p rfl (p_mv rfl) ?_
          refine q_g true rfl rfl rfl ?_
          refine q_p rfl (p_mv rfl) ?_
          refine q_g true rfl rfl rfl ?_
          refine q_p rfl (p_mv rfl) ?_
          refine q_g true rfl rfl rfl ?_
          obtain ⟨e9, he9, hm⟩ := bindS hm
          refine q_p rfl (p_idx Tryd.underlying103 ty106 rfl rfl (.row 0 rfl) he9) ?_
          refine q_g true rfl rfl rfl ?_
          refine q_p rfl (p_lea ty106 rfl (.row 0 rfl) (getI_spec he9).2) ?_
          refine q_g true rfl rfl rfl ?_
          refine q_p rfl (p_mv rfl) ?_
          refine q_g true rfl rfl rfl ?_
          refine q_p rfl (p_mv rfl) ?_
          refine q_g true rfl rfl rfl ?_
          refine q_p rfl (p_sub rfl rfl) ?_
          refine q_g true rfl rfl rfl ?_
          obtain ⟨e10, he10, hm⟩ := bindS hm
          refine q_p rfl (p_idx Tryd.underlying103 ty106 rfl rfl (.row 0 rfl) he10) ?_
          refine q_g true rfl rfl rfl ?_
          refine q_p rfl (p_lea ty106 rfl (.row 0 rfl) (getI_spec he10).2) ?_
          refine q_g true rfl rfl rfl ?_
          obtain ⟨y11, hy11, hm⟩ := bindS hm
          refine q_call (.int .i64 y11) cf76 rfl rfl (ok_concert_Encores_1 e9 e10 hy11) .nil (fun _ => rfl) (fun _ => rfl) rfl ?_
          refine q_g true rfl rfl rfl ?_
          refine q_p rfl (p_lss rfl rfl) ?_
          refine q_p rfl (p_pkt rfl rfl) ?_
          refine q_nil ?_
          refine nj_seq ?_
          refine cj_if (b := decide (y11 < 0)) rfl (fun hb => ?_) (fun hb => ?_)
          · have hm := ifB_t hb hm
            refine cj_skip ?_
            refine nj_seq ?_
            refine cj_seq ?_
            refine cj_blk ?_
            refine cj_pure (F := RdS R106 (SV.v s0_) u5.2) (.row 0 rfl) (fun _ h => h.some_of (getI_spec he9).2) (fun hp16 => ?_)
            refine cj_pure (F := RdS R106 (SV.v s0_) u5.2) (.row 0 rfl) (fun _ h => h.pures) (fun hq17 => ?_)
            obtain ⟨e12, he12, hm⟩ := bindS hm
            obtain ⟨e13, he13, hm⟩ := bindS hm
            obtain ⟨e14, he14, hm⟩ := bindS hm
            obtain ⟨e15, he15, hm⟩ := bindS hm
            refine cj_anyT [0, 1, 2, 3, 4, 5, 6, 7, 8, 9, 10, 11, 13, 14] [15, 16, 17] (Sat w0 (keys [.row R106 (SV.v s0_) a0]) A [.row R106 (SV.v s0_) u5.2]) (Sat w0 (keys [.row R106 (SV.v s0_) a0]) A []) (by kernel_rfl) ?_
            refine at_take2 0 rfl (by kernel_rfl) (by kernel_rfl) (by kernel_rfl) (fun _ h => h.picks [] rfl) rfl rfl (p_mv rfl) (fun _ h => h.picks [] rfl) ?_
            refine at_take2 1 rfl (by kernel_rfl) (by kernel_rfl) (by kernel_rfl) (fun _ h => h.picks [] rfl) rfl rfl (p_mv rfl) (fun _ h => h.picks [] rfl) ?_
            refine at_take2 2 rfl (by kernel_rfl) (by kernel_rfl) (by kernel_rfl) (fun _ h => h.picks [] rfl) rfl rfl (p_mv rfl) (fun _ h => h.picks [] rfl) ?_
            refine at_take2 3 rfl (by kernel_rfl) (by kernel_rfl) (by kernel_rfl) (fun _ h => h.picks [] rfl) rfl rfl (p_mv rfl) (fun _ h => h.picks [] rfl) ?_
            refine at_take2 4 rfl (by kernel_rfl) (by kernel_rfl) (by kernel_rfl) (fun _ h => h.picks [] rfl) rfl rfl (p_sub rfl rfl) (fun _ h => h.picks [] rfl) ?_
            refine at_take2 5 rfl (by kernel_rfl) (by kernel_rfl) (by kernel_rfl) (fun _ h => h.picks [] rfl) rfl rfl (p_mv rfl) (fun _ h => h.picks [] rfl) ?_
            refine at_take2 6 rfl (by kernel_rfl) (by kernel_rfl) (by kernel_rfl) (fun _ h => h.picks [] rfl) rfl rfl (p_mv rfl) (fun _ h => h.picks [] rfl) ?_
            refine at_take2 7 rfl (by kernel_rfl) (by kernel_rfl) (by kernel_rfl) (fun _ h => h.picks [] rfl) rfl rfl (p_sub rfl rfl) (fun _ h => h.picks [] rfl) ?_
            refine at_take1 8 rfl (by kernel_rfl) (by kernel_rfl) (by kernel_rfl) (by kernel_rfl) rfl rfl (p_idxP (R := R106) Tryd.underlying103 ty106 rfl rfl hq17 he12) (fun _ h => h.picks [0] rfl) ?_
            refine at_take1 9 rfl (by kernel_rfl) (by kernel_rfl) (by kernel_rfl) (by kernel_rfl) rfl rfl (p_lea ty106 rfl (.row 0 rfl) (getI_spec he12).2) (fun _ h => h.picks [0] rfl) ?_
            refine at_take2 10 rfl (by kernel_rfl) (by kernel_rfl) (by kernel_rfl) (fun _ h => h.picks [] rfl) rfl rfl (p_mv rfl) (fun _ h => h.picks [] rfl) ?_
            refine at_take2 11 rfl (by kernel_rfl) (by kernel_rfl) (by kernel_rfl) (fun _ h => h.picks [] rfl) rfl rfl (p_mv rfl) (fun _ h => h.picks [] rfl) ?_
            refine at_each (rs := [12]) (by kernel_rfl) (by decide) ?_
            refine (.cons rfl (fun I cnI => ?_) .nil)
            · refine lp rfl (p_idxP (R := R106) Tryd.underlying103 ty106 rfl rfl hq17 he13) ?_
              refine lj_nil ?_
              refine cnI _ _ (sof1 rfl rfl (fun _ h => h.picks [0] rfl)) ?_
              refine at_take1 13 rfl (by kernel_rfl) (by kernel_rfl) (by kernel_rfl) (by kernel_rfl) rfl rfl (p_lea ty106 rfl (.row 0 rfl) (getI_spec he13).2) (fun _ h => h.picks [0] rfl) ?_
              refine at_take1 14 rfl (by kernel_rfl) (by kernel_rfl) (by kernel_rfl) (by kernel_rfl) rfl rfl (p_idxP (R := R106) Tryd.underlying103 ty106 rfl rfl hq17 he14) (fun _ h => h.picks [0] rfl) ?_
              refine at_each (rs := [15]) (by kernel_rfl) (by decide) ?_
              refine (.cons rfl (fun I cnI => ?_) .nil)
              · refine r_ste (k := 0) (o := 0) (vs := [.string e12.key, .int .i64 e12.long_]) ty106 rfl rfl rfl rfl rfl rfl rfl (getI_spec he14).2 e12 rfl rfl ?_
                refine lj_nil ?_
                refine cnI _ _ (sof2 rfl rfl (fun _ h => h.picks [] rfl)) ?_
                refine at_each (rs := [16]) (by kernel_rfl) (by decide) ?_
                refine (.cons rfl (fun I cnI => ?_) .nil)
                · refine lp rfl (p_idx Tryd.underlying103 ty106 rfl rfl (.row 0 rfl) he15) ?_
                  refine lj_nil ?_
                  refine cnI _ _ (sof2 rfl rfl (fun _ h => h.picks [] rfl)) ?_
                  refine at_each (rs := [17]) (by kernel_rfl) (by decide) ?_
                  refine (.cons rfl (fun I cnI => ?_) .nil)
                  · refine r_ste (k := 0) (o := 0) (vs := [.string e13.key, .int .i64 e13.long_]) ty106 rfl rfl rfl rfl rfl rfl rfl (getI_spec he15).2 e13 rfl rfl ?_
                    refine lj_nil ?_
                    refine cnI _ _ (sof2 rfl rfl (fun _ h => h.picks [] rfl)) ?_
                    refine at_done (by kernel_rfl) ?_
                    refine nj_blk ?_
                    refine nj_seq ?_
                    refine cj_reg ?_
                    refine lp rfl (p_mv rfl) ?_
                    refine lp rfl (p_sub rfl rfl) ?_
                    refine lp rfl (p_as rfl) ?_
                    refine lj_nil ?_
                    exact cnk7 _ _ (w64 (u5.1 - 1), ((u5.2.set u5.1.toNat e12).set ((w64 (u5.1 - 1)).toNat) e13)) () (hJk7 _ (Option.some.inj hm).symm) ⟨rfl, rfl, rfl, rfl, rfl, rfl, trivial⟩ (fun _ h => h.picks [0] rfl)
          · have hm := ifB_f hb hm
            refine cj_exit rfl ?_
            exact (aftk7 (u5.1, u5.2) () (hBk7 _ (Option.some.inj hm).symm)).sub ⟨rfl, rfl, rfl, rfl, rfl, rfl, trivial⟩ (fun _ h => h.picks [0] rfl)
        · have hm := ifB_f hb hm
          refine q_s true rfl rfl rfl rfl ?_
          refine q_s true rfl rfl rfl rfl ?_
          refine q_s true rfl rfl rfl rfl ?_
          refine q_s true rfl rfl rfl rfl ?_
          refine q_s true rfl rfl rfl rfl ?_
          refine q_s true rfl rfl rfl rfl ?_
          refine q_s true rfl rfl rfl rfl ?_
          refine q_s true rfl rfl rfl rfl ?_
          refine q_s true rfl rfl rfl rfl ?_
          refine q_s true rfl rfl rfl rfl ?_
          refine q_s true rfl rfl rfl rfl ?_
          refine q_s true rfl rfl rfl rfl ?_
          refine q_p rfl (p_pkf rfl rfl) ?_
          refine q_nil ?_
          refine nj_seq ?_
          refine cj_if_f rfl ?_
          refine cj_exit rfl ?_
          exact (aftk7 (u5.1, u5.2) () (hBk7 _ (Option.some.inj hm).symm)).sub ⟨rfl, rfl, rfl, rfl, rfl, rfl, trivial⟩ (fun _ h => h.picks [0] rfl)
    · have hm := ifB_f hb hm
      refine cj_exit rfl ?_
      exact (aftk3 (u1.1, u1.2) () (hBk3 _ (Option.some.inj hm).symm)).sub ⟨rfl, rfl, rfl, rfl, rfl, trivial⟩ (fun _ h => h.picks [0] rfl)
theorem ok_slices_stableCmpFunc_concert_again__concert_Encores_1 (s0_ : SV) (a0 : (List Tconcert_again)) (a1 : Int) {r : (List Tconcert_again)} (hm : m_slices_stableCmpFunc_concert_again__concert_Encores_1 a0 a1 = some r) :
    Ctr Tryd.prog 98 [s0_.v, .int .i64 a1, .func (.func 76) #[] [].toArray].toArray [.row R106 (SV.v s0_) a0] [] (X := Unit) (fun _ => .tuple [].toArray) (fun _ => [.row R106 (SV.v s0_) r]) := by
  unfold m_slices_stableCmpFunc_concert_again__concert_Encores_1 at hm
  refine ctr_mk (vs := [(0, s0_.v), (1, .int .i64 a1), (2, .func (.func 76) #[] [].toArray)]) Tryd.func98 rfl Tryd.ntmps98 rfl ⟨rfl, rfl, rfl, trivial⟩ (fun w0 A => ?_)
  refine cj_seq ?_
  refine cj_reg ?_
  refine lp rfl (p_as rfl) ?_
  refine lj_seq ?_
  refine cj_seq ?_
  refine cj_reg ?_
  refine lp rfl (p_mv rfl) ?_
  refine lp rfl (p_as rfl) ?_
  refine lp rfl (p_as rfl) ?_
  refine lj_seq ?_
  refine cj_seq ?_
  obtain ⟨f4, hf4, hm⟩ := bindS hm
  refine cj_whileA (γ := Unit) hf4 () (fun u1 g2 => [(0, s0_.v), (1, .int .i64 a1), (2, .func (.func 76) #[] [].toArray), (6, .int .i64 20), (7, .int .i64 u1.1), (8, .int .i64 u1.2.1)]) (fun u1 g2 => Sat w0 (keys [.row R106 (SV.v s0_) a0]) A [.row R106 (SV.v s0_) u1.2.2]) ⟨rfl, rfl, rfl, rfl, rfl, rfl, trivial⟩ (fun _ h => h.picks [0] rfl) (fun u1 g2 e => ?_) (fun aftk3 u1 g2 k3 hs J hJk3 hBk3 hX I cnk3 => ?_)
  · have hm := Flow.fin_b e hm
    refine nj_seq ?_
    refine cj_seq ?_
    refine cj_reg ?_
    refine lp rfl (p_mv rfl) ?_
    refine lp rfl (p_mv rfl) ?_
    refine lp rfl (p_mv rfl) ?_
    refine lp rfl (p_mv rfl) ?_
    obtain ⟨y6, hy6, hm⟩ := bindS hm
    refine r_call [0] cf112 rfl rfl (ok_slices_insertionSortCmpFunc_concert_again__concert_Encores_1 s0_ u1.2.2 u1.1 a1 hy6) rfl rfl .nil (fun _ => rfl) rfl (fun _ => ?_)
    refine lj_seq ?_
    obtain ⟨f10, hf10, hm⟩ := bindS hm
    refine cj_whileA (γ := Unit) hf10 () (fun u7 g8 => [(0, s0_.v), (1, .int .i64 a1), (2, .func (.func 76) #[] [].toArray), (6, .int .i64 u7.1), (7, .int .i64 u7.2.1), (8, .int .i64 u7.2.2)]) (fun u7 g8 => Sat w0 (keys [.row R106 (SV.v s0_) a0]) A [.row R106 (SV.v s0_) y6]) ⟨rfl, rfl, rfl, rfl, rfl, rfl, trivial⟩ (fun _ h => h.picks [0] rfl) (fun u7 g8 e => ?_) (fun aftk9 u7 g8 k9 hs J hJk9 hBk9 hX I cnk9 => ?_)
    · have hm := Flow.fin_b e hm
      obtain rfl := Option.some.inj hm
      exact nj_rt () [0] Tryd.results98 .nil rfl rfl
    · have hRk9 : ∀ t, k9 = .ret t → some t = some r := fun t e => by rw [hX t e] at hm; exact hm
      have hm := hs
      refine cj_seq ?_
      refine cj_seq ?_
      refine cj_reg ?_
      refine lp rfl (p_mv rfl) ?_
      refine lp rfl (p_mv rfl) ?_
      refine lp rfl (p_lss rfl rfl) ?_
      refine lj_seq ?_
      refine cj_if (b := decide (u7.1 < a1)) rfl (fun hb => ?_) (fun hb => ?_)
      · have hm := ifB_t hb hm
        refine cj_skip ?_
        refine nj_seq ?_
        refine cj_blk ?_
        refine cj_seq ?_
        refine cj_reg ?_
        refine lp rfl (p_mv rfl) ?_
        refine lp rfl (p_mul rfl rfl) ?_
        refine lp rfl (p_as rfl) ?_
        refine lp rfl (p_as rfl) ?_
        refine lj_seq ?_
        refine cj_seq ?_
        obtain ⟨f14, hf14, hm⟩ := bindS hm
        refine cj_whileA (γ := Unit) hf14 () (fun u11 g12 => [(0, s0_.v), (1, .int .i64 a1), (2, .func (.func 76) #[] [].toArray), (6, .int .i64 u7.1), (7, .int .i64 0), (8, .int .i64 (w64 (2 * u7.1)))]) (fun u11 g12 => Sat w0 (keys [.row R106 (SV.v s0_) a0]) A [.row R106 (SV.v s0_) y6]) ⟨rfl, rfl, rfl, rfl, rfl, rfl, trivial⟩ (fun _ h => h.picks [0] rfl) (fun u11 g12 e => ?_) (fun aftk13 u11 g12 k13 hs J hJk13 hBk13 hX I cnk13 => ?_)
        · have hm := Flow.fin_b e hm
          refine nj_seq ?_
          refine cj_seq ?_
          refine cj_seq ?_
          refine cj_reg ?_
          refine lp rfl (p_mv rfl) ?_
          refine lp rfl (p_mv rfl) ?_
          refine lp rfl (p_add rfl rfl) ?_
          refine lp rfl (p_as rfl) ?_
          refine lj_seq ?_
          refine cj_seq ?_
          refine cj_reg ?_
          refine lp rfl (p_mv rfl) ?_
          refine lp rfl (p_mv rfl) ?_
          refine lp rfl (p_lss rfl rfl) ?_
          refine lj_seq ?_
          refine cj_if (b := decide ((w64 (0 + u7.1)) < a1)) rfl (fun hb => ?_) (fun hb => ?_)
          · have hm := ifB_t hb hm
            refine cj_reg ?_
            refine lp rfl (p_mv rfl) ?_
            refine lp rfl (p_mv rfl) ?_
            refine lp rfl (p_mv rfl) ?_
            refine lp rfl (p_mv rfl) ?_
            refine lp rfl (p_mv rfl) ?_
            cases hm
          · have hm := ifB_f hb hm
            refine cj_skip ?_
            refine nj_seq ?_
            refine cj_reg ?_
            refine lp rfl (p_mv rfl) ?_
            refine lp rfl (p_mul rfl rfl) ?_
            refine lp rfl (p_as rfl) ?_
            refine lj_nil ?_
            refine nj_blk ?_
            exact cnk9 _ _ (w64 (u7.1 * 2), 0, w64 (2 * u7.1)) () (hJk9 _ (Option.some.inj hm).symm) ⟨rfl, rfl, rfl, rfl, rfl, rfl, trivial⟩ (fun _ h => h.picks [0] rfl)
        · have hRk13 : ∀ t, k13 = .ret t → some t = some k9 := fun t e => by rw [hX t e] at hm; exact hm
          have hm := hs
          refine cj_seq ?_
          refine cj_seq ?_
          refine cj_reg ?_
          refine lp rfl (p_mv rfl) ?_
          refine lp rfl (p_mv rfl) ?_
          refine lp rfl (p_leq rfl rfl) ?_
          refine lj_seq ?_
          refine cj_if (b := decide ((w64 (2 * u7.1)) ≤ a1)) rfl (fun hb => ?_) (fun hb => ?_)
          · have hm := ifB_t hb hm
            refine cj_skip ?_
            refine nj_seq ?_
            refine cj_blk ?_
            refine cj_seq ?_
            refine cj_reg ?_
            refine lp rfl (p_mv rfl) ?_
            refine lp rfl (p_mv rfl) ?_
            refine lp rfl (p_mv rfl) ?_
            refine lp rfl (p_mv rfl) ?_
            refine lp rfl (p_add rfl rfl) ?_
            refine lp rfl (p_mv rfl) ?_
            refine lp rfl (p_mv rfl) ?_
            cases hm
          · have hm := ifB_f hb hm
            refine cj_exit rfl ?_
            exact (aftk13 () () (hBk13 _ (Option.some.inj hm).symm)).sub ⟨rfl, rfl, rfl, rfl, rfl, rfl, trivial⟩ (fun _ h => h.picks [0] rfl)
      · have hm := ifB_f hb hm
        refine cj_exit rfl ?_
        exact (aftk9 (u7.1, u7.2.1, u7.2.2) () (hBk9 _ (Option.some.inj hm).symm)).sub ⟨rfl, rfl, rfl, rfl, rfl, rfl, trivial⟩ (fun _ h => h.picks [0] rfl)
  · have hRk3 : ∀ t, k3 = .ret t → some t = some r := fun t e => by rw [hX t e] at hm; exact hm
    have hm := hs
    refine cj_seq ?_
    refine cj_seq ?_
    refine cj_reg ?_
    refine lp rfl (p_mv rfl) ?_
    refine lp rfl (p_mv rfl) ?_
    refine lp rfl (p_leq rfl rfl) ?_
    refine lj_seq ?_
    refine cj_if (b := decide (u1.2.1 ≤ a1)) rfl (fun hb => ?_) (fun hb => ?_)
    · have hm := ifB_t hb hm
      refine cj_skip ?_
      refine nj_seq ?_
      refine cj_blk ?_
      refine cj_seq ?_
      refine cj_reg ?_
      refine lp rfl (p_mv rfl) ?_
      refine lp rfl (p_mv rfl) ?_
      refine lp rfl (p_mv rfl) ?_
      refine lp rfl (p_mv rfl) ?_
      obtain ⟨y5, hy5, hm⟩ := bindS hm
      refine r_call [0] cf112 rfl rfl (ok_slices_insertionSortCmpFunc_concert_again__concert_Encores_1 s0_ u1.2.2 u1.1 u1.2.1 hy5) rfl rfl .nil (fun _ => rfl) rfl (fun _ => ?_)
      refine lj_seq ?_
      refine cj_seq ?_
      refine cj_reg ?_
      refine lp rfl (p_mv rfl) ?_
      refine lp rfl (p_as rfl) ?_
      refine lj_seq ?_
      refine cj_reg ?_
      refine lp rfl (p_mv rfl) ?_
      refine lp rfl (p_mv rfl) ?_
      refine lp rfl (p_add rfl rfl) ?_
      refine lp rfl (p_as rfl) ?_
      refine lj_nil ?_
      refine nj_blk ?_
      exact cnk3 _ _ (u1.2.1, w64 (u1.2.1 + 20), y5) () (hJk3 _ (Option.some.inj hm).symm) ⟨rfl, rfl, rfl, rfl, rfl, rfl, trivial⟩ (fun _ h => h.picks [0] rfl)
    · have hm := ifB_f hb hm
      refine cj_exit rfl ?_
      exact (aftk3 (u1.1, u1.2.1, u1.2.2) () (hBk3 _ (Option.some.inj hm).symm)).sub ⟨rfl, rfl, rfl, rfl, rfl, rfl, trivial⟩ (fun _ h => h.picks [0] rfl)
theorem ok_slices_SortStableFunc_concert_again_concert_again__concert_Encores_1 (s0_ : SV) (a0 : (List Tconcert_again)) {r : (List Tconcert_again)} (hm : m_slices_SortStableFunc_concert_again_concert_again__concert_Encores_1 a0 = some r) :
    Ctr Tryd.prog 75 [s0_.v, .func (.func 76) #[] [].toArray].toArray [.row R106 (SV.v s0_) a0] [] (X := Unit) (fun _ => .tuple [].toArray) (fun _ => [.row R106 (SV.v s0_) r]) := by
  unfold m_slices_SortStableFunc_concert_again_concert_again__concert_Encores_1 at hm
  refine ctr_mk (vs := [(0, s0_.v), (1, .func (.func 76) #[] [].toArray)]) Tryd.func75 rfl Tryd.ntmps75 rfl ⟨rfl, rfl, trivial⟩ (fun w0 A => ?_)
  refine cj_reg ?_
  refine lp rfl (p_mv rfl) ?_
  refine lp rfl (p_mv rfl) ?_
  refine lp rfl (p_len Tryd.underlying103 rfl (.row 0 rfl)) ?_
  refine lp rfl (p_mv rfl) ?_
  obtain ⟨y1, hy1, hm⟩ := bindS hm
  refine r_call [0] cf98 rfl rfl (ok_slices_stableCmpFunc_concert_again__concert_Encores_1 s0_ a0 (a0.length : Int) hy1) rfl rfl .nil (fun _ => rfl) rfl (fun _ => ?_)
  refine lj_nil ?_
  obtain rfl := Option.some.inj hm
  exact nj_rt () [0] Tryd.results75 .nil rfl rfl
theorem ok_concert_Encores (a0 : TProgram) (s0_0_ : SV) (xg0_0_ : List (TItem × SV)) (a1 : Int) {r : (List ByteArray) × Int} (hm : m_concert_Encores a0 a1 = some r) :
    Ctr Tryd.prog 37 [.agg [s0_0_.v, .int .i64 a0.Change, .int .i64 a0.Clap, .int .i64 a0.Break, .int .i64 a0.Half].toArray, .int .i64 a1].toArray ([] : List Ent) [Lk N63 a0.Items xg0_0_, RdS N63.R (SV.v s0_0_) xg0_0_] (X := SV) (fun s => .tuple [s.v, .int .i64 r.2].toArray) (fun s => [.row R9 (SV.v s) r.1]) := by
  unfold m_concert_Encores at hm
  refine ctr_mk (vs := [(0, .agg [s0_0_.v, .int .i64 a0.Change, .int .i64 a0.Clap, .int .i64 a0.Break, .int .i64 a0.Half].toArray), (1, .int .i64 a1)]) Tryd.func37 rfl Tryd.ntmps37 rfl ⟨rfl, rfl, trivial⟩ (fun w0 A => ?_)
  refine cj_pure (F := Lk N63 a0.Items xg0_0_) (.ro 0 rfl) (fun _ h => h.1) (fun hL0_0_ => ?_)
  refine cj_seq ?_
  refine cj_reg ?_
  refine r_bx (cs := [s0_0_.v, .int .i64 a0.Change, .int .i64 a0.Clap, .int .i64 a0.Break, .int .i64 a0.Half]) rfl rfl rfl (fun b1 => ?_)
  refine lp rfl (p_as rfl) ?_
  refine lp rfl (p_as rfl) ?_
  refine lj_seq ?_
  refine cj_seq ?_
  refine cj_seq ?_
  refine cj_reg ?_
  refine lp rfl (p_lbw ty28 rfl (j := 0) rfl rfl) ?_
  obtain ⟨y2, hy2, hm⟩ := bindS hm
  refine r_call [] cf18 rfl rfl (ok_concert_CheckProgram a0 s0_0_ xg0_0_ hy2) rfl rfl (.cons (.ro 1 rfl) (.cons (.ro 2 rfl) .nil)) (fun _ => rfl) rfl (fun _ => ?_)
  refine lp rfl (p_as rfl) ?_
  refine lj_seq ?_
  refine cj_seq ?_
  refine cj_reg ?_
  refine lp rfl (p_mv rfl) ?_
  refine lp rfl (p_neq rfl rfl) ?_
  refine lj_seq ?_
  refine cj_if (b := y2 != 0) rfl (fun hb => ?_) (fun hb => ?_)
  · have hm := ifB_t hb hm
    refine cj_seq ?_
    refine cj_reg ?_
    refine lp rfl (p_mv rfl) ?_
    refine lp rfl (p_as rfl) ?_
    refine lp rfl (p_as rfl) ?_
    refine lj_seq ?_
    obtain rfl := Option.some.inj hm
    refine cj_nil R9 ?_
    exact cj_rt nilS [0] Tryd.results37 (.tmp rfl (.tmp rfl .nil)) rfl rfl
  · have hm := ifB_f hb hm
    refine cj_skip ?_
    refine nj_seq ?_
    refine cj_seq ?_
    refine cj_seq ?_
    refine cj_reg ?_
    refine lp rfl (p_mv rfl) ?_
    obtain ⟨y4, hy4, hm⟩ := bindS hm
    refine r_call [] cf52 rfl rfl (ok_kit_Outside a1 0 86400000 hy4) rfl rfl .nil (fun _ => rfl) rfl (fun _ => ?_)
    refine lj_seq ?_
    refine cj_if (b := y4) rfl (fun hb => ?_) (fun hb => ?_)
    · have hm := ifB_t hb hm
      refine cj_seq ?_
      refine cj_reg ?_
      refine lp rfl (p_as rfl) ?_
      refine lp rfl (p_as rfl) ?_
      refine lj_seq ?_
      obtain rfl := Option.some.inj hm
      refine cj_nil R9 ?_
      exact cj_rt nilS [0] Tryd.results37 (.tmp rfl (.tmp rfl .nil)) rfl rfl
    · have hm := ifB_f hb hm
      refine cj_skip ?_
      refine nj_seq ?_
      refine cj_seq ?_
      refine cj_seq ?_
      refine cj_reg ?_
      refine lp rfl (p_fab fl28_0 rfl) ?_
      refine lp rfl (p_lbs ty26 rfl (j := 0) rfl rfl) ?_
      refine lp rfl (p_lenG hL0_0_ Tryd.underlying26 rfl (.ro 2 rfl)) ?_
      refine lp rfl (p_eql rfl rfl) ?_
      refine lj_seq ?_
      refine cj_if (b := (a0.Items.length : Int) == 0) rfl (fun hb => ?_) (fun hb => ?_)
      · have hm := ifB_t hb hm
        refine cj_seq ?_
        refine cj_reg ?_
        refine lp rfl (p_as rfl) ?_
        refine lp rfl (p_as rfl) ?_
        refine lj_seq ?_
        obtain rfl := Option.some.inj hm
        refine cj_nil R9 ?_
        exact cj_rt nilS [0] Tryd.results37 (.tmp rfl (.tmp rfl .nil)) rfl rfl
      · have hm := ifB_f hb hm
        refine cj_skip ?_
        refine nj_seq ?_
        refine cj_seq ?_
        refine cj_reg ?_
        refine lp rfl (p_fab fl28_0 rfl) ?_
        refine lp rfl (p_lbs ty26 rfl (j := 0) rfl rfl) ?_
        refine lp rfl (p_fab fl28_0 rfl) ?_
        refine lp rfl (p_lbs ty26 rfl (j := 0) rfl rfl) ?_
        refine lp rfl (p_lenG hL0_0_ Tryd.underlying26 rfl (.ro 2 rfl)) ?_
        refine lp rfl (p_sub rfl rfl) ?_
        obtain ⟨e7, he7, hm⟩ := bindS hm
        obtain ⟨ge7, he7G⟩ := lk_getI hL0_0_ he7
        refine lp rfl (p_idx Tryd.underlying26 ty63 rfl rfl (.ro 2 rfl) he7G) ?_
        refine lp rfl (p_leaN (cs := [.string e7.Key, .string e7.Places, .int .i64 e7.Long, ge7.v]) ty63 rfl (.ro 2 rfl) (getI_spec he7G).2 rfl) ?_
        refine r_al ty63 rfl (fun b8 => ?_)
        refine r_sb (vs := [.string e7.Key, .string e7.Places, .int .i64 e7.Long, ge7.v]) (j := 0) ty63 rfl rfl rfl rfl rfl rfl rfl ?_
        refine lj_seq ?_
        refine cj_seq ?_
        refine cj_reg ?_
        refine lp rfl (p_as rfl) ?_
        refine lj_seq ?_
        refine cj_seq ?_
        refine cj_seq ?_
        refine cj_reg ?_
        refine lp rfl (p_fab fl28_0 rfl) ?_
        refine lp rfl (p_lbs ty26 rfl (j := 1) rfl rfl) ?_
        refine lp rfl (p_lenG hL0_0_ Tryd.underlying26 rfl (.ro 3 rfl)) ?_
        refine lp rfl (p_mv rfl) ?_
        refine lj_seq ?_
        refine cj_nil R106 ?_
        obtain ⟨f16, hf16, hm⟩ := bindS hm
        refine cj_range (γ := SV) (m := (a0.Items.length : Int)) hf16 nilS (fun u13 g14 => [(1, .int .i64 a1), (2, .pointer (some ⟨b1, 0, none⟩)), (4, .slice none 0 0), (5, .int .i64 0), (7, .pointer (some ⟨b8, 0, none⟩)), (8, g14.v), (35, s0_0_.v)]) (fun u13 g14 => Sat w0 (keys ([] : List Ent)) A [.box b8 63 [.string e7.Key, .string e7.Places, .int .i64 e7.Long, ge7.v], .box b1 28 [s0_0_.v, .int .i64 a0.Change, .int .i64 a0.Clap, .int .i64 a0.Break, .int .i64 a0.Half], .ro (Lk N63 a0.Items xg0_0_), .ro (RdS N63.R (SV.v s0_0_) xg0_0_), .row R106 (SV.v g14) u13]) ⟨rfl, rfl, rfl, rfl, rfl, rfl, rfl, rfl, rfl, trivial⟩ (fun _ h => h.picks [1, 1, 1, 1, 0] rfl) (nat_lt _) (fun _ h => by have h1 := (FactAt.get (.ro 4 rfl) h).1; rw [lk_len hL0_0_] at h1; exact h1) (fun _ _ => ⟨rfl, rfl, rfl, rfl⟩) ⟨rfl, rfl, rfl, rfl, rfl⟩ rfl rfl rfl (fun u13 g14 e => ?_) (fun aftk15 i9 x10 u13 g14 k15 hx11 hs J hJk15 hBk15 hX I cnk15 => ?_)
        · have hm := Flow.fin_b e hm
          refine nj_seq ?_
          refine cj_seq ?_
          refine cj_reg ?_
          refine lp rfl (p_mv rfl) ?_
          obtain ⟨y24, hy24, hm⟩ := bindS hm
          refine r_call [4] cf75 rfl rfl (ok_slices_SortStableFunc_concert_again_concert_again__concert_Encores_1 g14 u13 hy24) rfl rfl .nil (fun _ => rfl) rfl (fun _ => ?_)
          refine lj_seq ?_
          refine cj_seq ?_
          refine cj_reg ?_
          refine lp rfl (p_as rfl) ?_
          refine lj_seq ?_
          refine cj_seq ?_
          refine cj_seq ?_
          refine cj_reg ?_
          refine lp rfl (p_mv rfl) ?_
          refine lp rfl (p_len Tryd.underlying103 rfl (.row 0 rfl)) ?_
          refine lp rfl (p_mv rfl) ?_
          refine lj_seq ?_
          refine cj_nil R9 ?_
          obtain ⟨f32, hf32, hm⟩ := bindS hm
          refine cj_range (γ := SV) (m := (y24.length : Int)) hf32 nilS (fun u29 g30 => [(4, .slice none 0 0), (5, .int .i64 0), (12, g30.v), (61, g14.v)]) (fun u29 g30 => Sat w0 (keys ([] : List Ent)) A [.row R106 (SV.v g14) y24, .row R9 (SV.v g30) u29]) ⟨rfl, rfl, rfl, rfl, rfl, rfl, trivial⟩ (fun _ h => h.picks [1, 0] rfl) (nat_lt _) (fun _ h => (FactAt.get (.row 1 rfl) h).1) (fun _ _ => ⟨rfl, rfl, rfl, rfl⟩) ⟨rfl, rfl, rfl, rfl, rfl⟩ rfl rfl rfl (fun u29 g30 e => ?_) (fun aftk31 i25 x26 u29 g30 k31 hx27 hs J hJk31 hBk31 hX I cnk31 => ?_)
          · have hm := Flow.fin_b e hm
            refine nj_seq ?_
            refine cj_seq ?_
            refine cj_reg ?_
            refine lp rfl (p_mv rfl) ?_
            refine lp rfl (p_as rfl) ?_
            refine lp rfl (p_as rfl) ?_
            refine lj_seq ?_
            obtain rfl := Option.some.inj hm
            exact cj_rt g30 [1] Tryd.results37 (.tmp rfl (.tmp rfl .nil)) rfl rfl
          · have hRk31 : ∀ t, k31 = .ret t → some t = some r := fun t e => by rw [hX t e] at hm; exact hm
            have hm := hs
            refine cj_seq ?_
            refine cj_reg ?_
            refine lp rfl (p_idx Tryd.underlying103 ty106 rfl rfl (.row 0 rfl) (getI_nat.trans hx27)) ?_
            refine lp rfl (p_lea ty106 rfl (.row 0 rfl) hx27) ?_
            refine r_al ty106 rfl (fun b34 => ?_)
            refine r_sb (vs := [.string x26.key, .int .i64 x26.long_]) (j := 0) ty106 rfl rfl rfl rfl rfl rfl rfl ?_
            refine lj_seq ?_
            refine cj_reg ?_
            refine lp rfl (p_mv rfl) ?_
            refine lp rfl (p_fab fl106_0 rfl) ?_
            refine lp rfl (p_lbs ty9 rfl (j := 0) rfl rfl) ?_
            refine r_bs R9 [x26.key] rfl rfl rfl (fun _ => by kernel_rfl) rfl (fun s35 => ?_)
            obtain ⟨q36, hq36, hm⟩ := bindS hm
            refine r_app (k := 3) Tryd.underlying49 ty9 rfl rfl rfl rfl (.row 0 rfl) hq36 rfl (fun s37 => ?_)
            refine lp rfl (p_as rfl) ?_
            refine lj_nil ?_
            refine nj_blk ?_
            exact cnk31 _ _ q36 s37 (hJk31 _ (Option.some.inj hm).symm) ⟨rfl, rfl, rfl, rfl, rfl, rfl, trivial⟩ (fun _ h => h.picks [2, 2] rfl)
        · have hRk15 : ∀ t, k15 = .ret t → some t = some r := fun t e => by rw [hX t e] at hm; exact hm
          have hm := hs
          refine cj_seq ?_
          refine cj_reg ?_
          obtain ⟨gx10, hx11G⟩ := lk_get hL0_0_ hx11
          refine lp rfl (p_idx Tryd.underlying26 ty63 rfl rfl (.ro 3 rfl) (getI_nat.trans hx11G)) ?_
          refine lp rfl (p_leaN (cs := [.string x10.Key, .string x10.Places, .int .i64 x10.Long, gx10.v]) ty63 rfl (.ro 3 rfl) hx11G rfl) ?_
          refine r_al ty63 rfl (fun b18 => ?_)
          refine r_sb (vs := [.string x10.Key, .string x10.Places, .int .i64 x10.Long, gx10.v]) (j := 0) ty63 rfl rfl rfl rfl rfl rfl rfl ?_
          refine lj_seq ?_
          refine cj_seq ?_
          refine cj_quiet (by kernel_rfl) (by kernel_rfl) ?_
          refine q_p rfl (p_lbw ty28 rfl (j := 2) rfl rfl) ?_
          refine q_p rfl (p_lbw ty63 rfl (j := 1) rfl rfl) ?_
          refine q_p rfl (p_lbw ty63 rfl (j := 0) rfl rfl) ?_
          obtain ⟨y19, hy19, hm⟩ := bindS hm
          refine q_call (.int .i64 y19) cf74 rfl rfl (ok_concert_change a0 s0_0_ xg0_0_ e7 ge7 x10 gx10 hy19) (.cons (.ro 3 rfl) (.cons (.ro 4 rfl) (.cons (.imp (.ro 3 rfl) (fun _ h => (Lk.at_ h (getI_spec he7G).2))) (.cons (.imp (.ro 3 rfl) (fun _ h => (Lk.at_ h hx11G))) .nil)))) (fun _ => rfl) (fun _ => rfl) rfl ?_
          refine q_p rfl (p_fab fl63_2 rfl) ?_
          refine q_p rfl (p_lbs ty3 rfl (j := 0) rfl rfl) ?_
          refine q_p rfl (p_add rfl rfl) ?_
          refine q_p rfl (p_as rfl) ?_
          refine q_nil ?_
          refine nj_seq ?_
          refine cj_seq ?_
          refine cj_reg ?_
          refine lp rfl (p_mv rfl) ?_
          refine lp rfl (p_mv rfl) ?_
          refine lp rfl (p_leq rfl rfl) ?_
          refine lj_seq ?_
          refine cj_if (b := decide ((w64 (y19 + x10.Long)) ≤ a1)) rfl (fun hb => ?_) (fun hb => ?_)
          · have hm := ifB_t hb hm
            refine cj_reg ?_
            refine lp rfl (p_mv rfl) ?_
            refine lp rfl (p_fab fl63_0 rfl) ?_
            refine lp rfl (p_lbs ty9 rfl (j := 0) rfl rfl) ?_
            refine lp rfl (p_mv rfl) ?_
            refine lp rfl (p_bld [.string x10.Key, .int .i64 (w64 (y19 + x10.Long))] rfl (fun _ => by kernel_rfl)) ?_
            refine r_bs R106 [(Tconcert_again.mk x10.Key (w64 (y19 + x10.Long)))] rfl rfl rfl (fun _ => by kernel_rfl) rfl (fun s20 => ?_)
            obtain ⟨q21, hq21, hm⟩ := bindS hm
            refine r_app (k := 6) Tryd.underlying103 ty106 rfl rfl rfl rfl (.row 0 rfl) hq21 rfl (fun s22 => ?_)
            refine lp rfl (p_as rfl) ?_
            refine lj_nil ?_
            refine nj_blk ?_
            exact cnk15 _ _ q21 s22 (hJk15 _ (Option.some.inj hm).symm) ⟨rfl, rfl, rfl, rfl, rfl, rfl, rfl, rfl, rfl, trivial⟩ (fun _ h => h.picks [2, 2, 2, 2, 2] rfl)
          · have hm := ifB_f hb hm
            refine cj_skip ?_
            refine nj_blk ?_
            exact cnk15 _ _ u13 g14 (hJk15 _ (Option.some.inj hm).symm) ⟨rfl, rfl, rfl, rfl, rfl, rfl, rfl, rfl, rfl, trivial⟩ (fun _ h => h.picks [1, 1, 1, 1, 1] rfl)
theorem ok_gleeref2_in (a0 : Int) (a1 : Int) (a2 : Int) {r : Bool} (hm : m_gleeref2_in a0 a1 a2 = some r) :
    Ctr Tryd.prog 46 [.int .i64 a0, .int .i64 a1, .int .i64 a2].toArray ([] : List Ent) [] (X := Unit) (fun _ => .bool r) (fun _ => []) := by
  unfold m_gleeref2_in at hm
  refine ctr_mk (vs := [(0, .int .i64 a0), (1, .int .i64 a1), (2, .int .i64 a2)]) Tryd.func46 rfl Tryd.ntmps46 rfl ⟨rfl, rfl, rfl, trivial⟩ (fun w0 A => ?_)
  refine cj_seq ?_
  refine cj_reg ?_
  refine lp rfl (p_as rfl) ?_
  refine lj_seq ?_
  refine cj_seq ?_
  refine cj_reg ?_
  refine lp rfl (p_mv rfl) ?_
  refine lp rfl (p_mv rfl) ?_
  refine lp rfl (p_leq rfl rfl) ?_
  refine lp rfl (p_mv rfl) ?_
  refine lcase (i := 10) (decide (a1 ≤ a0)) rfl (fun hb => ?_) (fun hb => ?_)
  · have hm := ifB_t hb hm
    refine lg true rfl rfl rfl ?_
    refine lp rfl (p_mv rfl) ?_
    refine lg true rfl rfl rfl ?_
    refine lp rfl (p_mv rfl) ?_
    refine lg true rfl rfl rfl ?_
    refine lp rfl (p_leq rfl rfl) ?_
    refine lp rfl (p_pkt rfl rfl) ?_
    refine lp rfl (p_as rfl) ?_
    refine lj_seq ?_
    obtain rfl := Option.some.inj hm
    exact cj_rt () [] Tryd.results46 (.tmp rfl .nil) rfl rfl
  · have hm := ifB_f hb hm
    refine ls true rfl rfl rfl rfl ?_
    refine ls true rfl rfl rfl rfl ?_
    refine ls true rfl rfl rfl rfl ?_
    refine lp rfl (p_pkf rfl rfl) ?_
    refine lp rfl (p_as rfl) ?_
    refine lj_seq ?_
    obtain rfl := Option.some.inj hm
    exact cj_rt () [] Tryd.results46 (.tmp rfl .nil) rfl rfl
theorem ok_gleeref2_only (a0 : ByteArray) (a1 : ByteArray) {r : Bool} (hm : m_gleeref2_only a0 a1 = some r) :
    Ctr Tryd.prog 89 [.string a0, .string a1].toArray ([] : List Ent) [] (X := Unit) (fun _ => .bool r) (fun _ => []) := by
  unfold m_gleeref2_only at hm
  refine ctr_mk (vs := [(0, .string a0), (1, .string a1)]) Tryd.func89 rfl Tryd.ntmps89 rfl ⟨rfl, rfl, trivial⟩ (fun w0 A => ?_)
  refine cj_seq ?_
  refine cj_reg ?_
  refine lp rfl (p_as rfl) ?_
  refine lj_seq ?_
  refine cj_seq ?_
  refine cj_seq ?_
  refine cj_reg ?_
  refine lp rfl (p_mv rfl) ?_
  refine lp rfl (p_lens Tryd.underlying9 rfl) ?_
  refine lp rfl (p_mv rfl) ?_
  refine lj_seq ?_
  obtain ⟨L10, hL10, hm⟩ := bindS hm
  obtain ⟨f7, hf7, hm⟩ := bindS hm
  refine cj_range (γ := Unit) (m := (a0.size : Int)) hf7 () (fun u4 g5 => [(0, .string a0), (1, .string a1), (4, .bool false)]) (fun u4 g5 => Sat w0 (keys ([] : List Ent)) A []) ⟨rfl, rfl, rfl, rfl, rfl, trivial⟩ (fun _ h => h.picks [] rfl) (rangeI_spec hL10).1 (fun _ _ => (rangeI_spec hL10).2) (fun _ _ => ⟨rfl, rfl, rfl, rfl⟩) ⟨rfl, rfl, rfl, rfl, rfl⟩ rfl rfl rfl (fun u4 g5 e => ?_) (fun aftk6 i1 x2 u4 g5 k6 hx3 hs J hJk6 hBk6 hX I cnk6 => ?_)
  · have hm := Flow.fin_b e hm
    refine nj_seq ?_
    refine cj_seq ?_
    refine cj_reg ?_
    refine lp rfl (p_as rfl) ?_
    refine lj_seq ?_
    obtain rfl := Option.some.inj hm
    exact cj_rt () [] Tryd.results89 (.tmp rfl .nil) rfl rfl
  · have hRk6 : ∀ t, k6 = .ret t → some t = some r := fun t e => by rw [hX t e] at hm; exact hm
    have hm := hs
    refine cj_seq ?_
    refine cj_reg ?_
    refine lp rfl (p_mv rfl) ?_
    refine lp rfl (p_as rfl) ?_
    refine lj_seq ?_
    refine cj_seq ?_
    refine cj_reg ?_
    refine lp rfl (p_mv rfl) ?_
    refine lp rfl (p_mv rfl) ?_
    refine lp rfl (p_mv rfl) ?_
    obtain ⟨c8, hc8, hm⟩ := bindS hm
    refine lp rfl (p_stri Tryd.underlying9 rfl rfl hc8) ?_
    obtain ⟨y9, hy9, hm⟩ := bindS hm
    refine r_call [] cf86 rfl rfl (ok_strings_IndexByte a1 c8 hy9) rfl rfl .nil (fun _ => rfl) rfl (fun _ => ?_)
    refine lp rfl (p_lss rfl rfl) ?_
    refine lj_seq ?_
    refine cj_if (b := decide (y9 < 0)) rfl (fun hb => ?_) (fun hb => ?_)
    · have hm := ifB_t hb hm
      refine cj_seq ?_
      refine cj_reg ?_
      refine lp rfl (p_as rfl) ?_
      refine lj_seq ?_
      have hm := hRk6 _ (Option.some.inj hm).symm
      obtain rfl := Option.some.inj hm
      exact cj_rt () [] Tryd.results89 (.tmp rfl .nil) rfl rfl
    · have hm := ifB_f hb hm
      refine cj_skip ?_
      refine nj_blk ?_
      exact cnk6 _ _ () () (hJk6 _ (Option.some.inj hm).symm) ⟨rfl, rfl, rfl, rfl, rfl, trivial⟩ (fun _ h => h.picks [] rfl)
theorem ok_gleeref2_Key (a0 : ByteArray) {r : Bool} (hm : m_gleeref2_Key a0 = some r) :
    Ctr Tryd.prog 54 [.string a0].toArray ([] : List Ent) [] (X := Unit) (fun _ => .bool r) (fun _ => []) := by
  unfold m_gleeref2_Key at hm
  refine ctr_mk (vs := [(0, .string a0)]) Tryd.func54 rfl Tryd.ntmps54 rfl ⟨rfl, trivial⟩ (fun w0 A => ?_)
  refine cj_seq ?_
  refine cj_reg ?_
  refine lp rfl (p_as rfl) ?_
  refine lj_seq ?_
  refine cj_seq ?_
  refine cj_reg ?_
  refine lp rfl (p_mv rfl) ?_
  refine lp rfl (p_lens Tryd.underlying9 rfl) ?_
  obtain ⟨y1, hy1, hm⟩ := bindS hm
  refine r_call [] cf46 rfl rfl (ok_gleeref2_in (a0.size : Int) 1 40 hy1) rfl rfl .nil (fun _ => rfl) rfl (fun _ => ?_)
  refine lp rfl (p_mv rfl) ?_
  refine lcase (i := 6) y1 rfl (fun hb => ?_) (fun hb => ?_)
  · have hm := ifB_t hb hm
    refine lg true rfl rfl rfl ?_
    refine lp rfl (p_mv rfl) ?_
    refine lg true rfl rfl rfl ?_
    obtain ⟨c2, hc2, hm⟩ := bindS hm
    refine lp rfl (p_strs Tryd.underlying9 rfl rfl rfl rfl rfl rfl rfl hc2) ?_
    refine lg true rfl rfl rfl ?_
    obtain ⟨y3, hy3, hm⟩ := bindS hm
    refine r_call [] cf89 rfl rfl (ok_gleeref2_only c2 (ByteArray.mk [97, 98, 99, 100, 101, 102, 103, 104, 105, 106, 107, 108, 109, 110, 111, 112, 113, 114, 115, 116, 117, 118, 119, 120, 121, 122].toArray) hy3) rfl rfl .nil (fun _ => rfl) rfl (fun _ => ?_)
    refine lp rfl (p_pkt rfl rfl) ?_
    refine lp rfl (p_mv rfl) ?_
    refine lcase (i := 11) y3 rfl (fun hb => ?_) (fun hb => ?_)
    · have hm := ifB_t hb hm
      refine lg true rfl rfl rfl ?_
      refine lp rfl (p_mv rfl) ?_
      refine lg true rfl rfl rfl ?_
      obtain ⟨y4, hy4, hm⟩ := bindS hm
      refine r_call [] cf89 rfl rfl (ok_gleeref2_only a0 (ByteArray.mk [97, 98, 99, 100, 101, 102, 103, 104, 105, 106, 107, 108, 109, 110, 111, 112, 113, 114, 115, 116, 117, 118, 119, 120, 121, 122, 48, 49, 50, 51, 52, 53, 54, 55, 56, 57, 45, 95].toArray) hy4) rfl rfl .nil (fun _ => rfl) rfl (fun _ => ?_)
      refine lp rfl (p_pkt rfl rfl) ?_
      refine lp rfl (p_as rfl) ?_
      refine lj_seq ?_
      obtain rfl := Option.some.inj hm
      exact cj_rt () [] Tryd.results54 (.tmp rfl .nil) rfl rfl
    · have hm := ifB_f hb hm
      refine ls true rfl rfl rfl rfl ?_
      refine ls true rfl rfl rfl rfl ?_
      refine lp rfl (p_pkf rfl rfl) ?_
      refine lp rfl (p_as rfl) ?_
      refine lj_seq ?_
      obtain rfl := Option.some.inj hm
      exact cj_rt () [] Tryd.results54 (.tmp rfl .nil) rfl rfl
  · have hm := ifB_f hb hm
    refine ls true rfl rfl rfl rfl ?_
    refine ls true rfl rfl rfl rfl ?_
    refine ls true rfl rfl rfl rfl ?_
    refine lp rfl (p_pkf rfl rfl) ?_
    refine lp rfl (p_mv rfl) ?_
    refine ls true rfl rfl rfl rfl ?_
    refine ls true rfl rfl rfl rfl ?_
    refine lp rfl (p_pkf rfl rfl) ?_
    refine lp rfl (p_as rfl) ?_
    refine lj_seq ?_
    obtain rfl := Option.some.inj hm
    exact cj_rt () [] Tryd.results54 (.tmp rfl .nil) rfl rfl
theorem ok_gleeref2_ItemAt_1 (a0 : TItem) (s0_3_ : SV) (b1_ : Nat) (a1_0 : ByteArray) {r : Bool} (hm : m_gleeref2_ItemAt_1 a0 a1_0 = some r) :
    Ctr Tryd.prog 90 [.agg [.string a0.Key, .string a0.Places, .int .i64 a0.Long, s0_3_.v].toArray, .pointer (some ⟨b1_, 0, none⟩)].toArray ([] : List Ent) [RdS R9 (SV.v s0_3_) a0.Parts, BoxS b1_ 9 [.string a1_0]] (X := Unit) (fun _ => .bool r) (fun _ => []) := by
  unfold m_gleeref2_ItemAt_1 at hm
  refine ctr_mk (vs := [(0, .agg [.string a0.Key, .string a0.Places, .int .i64 a0.Long, s0_3_.v].toArray), (1, .pointer (some ⟨b1_, 0, none⟩))]) Tryd.func90 rfl Tryd.ntmps90 rfl ⟨rfl, rfl, trivial⟩ (fun w0 A => ?_)
  refine cj_seq ?_
  refine cj_reg ?_
  refine r_bx (cs := [.string a0.Key, .string a0.Places, .int .i64 a0.Long, s0_3_.v]) rfl rfl rfl (fun b1 => ?_)
  refine lp rfl (p_as rfl) ?_
  refine lj_seq ?_
  refine cj_seq ?_
  refine cj_reg ?_
  refine lp rfl (p_fab fl63_0 rfl) ?_
  refine lp rfl (p_lbs ty9 rfl (j := 0) rfl rfl) ?_
  refine lp rfl (p_rbs ty9 rfl (.ro 2 rfl) rfl) ?_
  refine lp rfl (p_eqs rfl rfl) ?_
  refine lp rfl (p_as rfl) ?_
  refine lj_seq ?_
  obtain rfl := Option.some.inj hm
  exact cj_rt () [] Tryd.results90 (.tmp rfl .nil) rfl rfl
theorem ok_slices_IndexFunc_api_Item_api_Item__gleeref2_ItemAt_1 (s0_ : SV) (xg0_ : List (TItem × SV)) (a0 : (List TItem)) (b1_c0_ : Nat) (a1_c0_0 : ByteArray) {r : Int} (hm : m_slices_IndexFunc_api_Item_api_Item__gleeref2_ItemAt_1 a0 a1_c0_0 = some r) :
    Ctr Tryd.prog 88 [s0_.v, .func (.func 90) #[] [.pointer (some ⟨b1_c0_, 0, none⟩)].toArray].toArray ([] : List Ent) [Lk N63 a0 xg0_, RdS N63.R (SV.v s0_) xg0_, BoxS b1_c0_ 9 [.string a1_c0_0]] (X := Unit) (fun _ => .int .i64 r) (fun _ => []) := by
  unfold m_slices_IndexFunc_api_Item_api_Item__gleeref2_ItemAt_1 at hm
  refine ctr_mk (vs := [(0, s0_.v), (1, .func (.func 90) #[] [.pointer (some ⟨b1_c0_, 0, none⟩)].toArray)]) Tryd.func88 rfl Tryd.ntmps88 rfl ⟨rfl, rfl, trivial⟩ (fun w0 A => ?_)
  refine cj_pure (F := Lk N63 a0 xg0_) (.ro 0 rfl) (fun _ h => h.1) (fun hL0_ => ?_)
  refine cj_seq ?_
  refine cj_reg ?_
  refine lp rfl (p_as rfl) ?_
  refine lj_seq ?_
  refine cj_seq ?_
  refine cj_seq ?_
  refine cj_reg ?_
  refine lp rfl (p_mv rfl) ?_
  refine lp rfl (p_lenG hL0_ Tryd.underlying26 rfl (.ro 1 rfl)) ?_
  refine lp rfl (p_mv rfl) ?_
  refine lj_seq ?_
  obtain ⟨f7, hf7, hm⟩ := bindS hm
  refine cj_range (γ := Unit) (m := (a0.length : Int)) hf7 () (fun u4 g5 => [(0, s0_.v), (1, .func (.func 90) #[] [.pointer (some ⟨b1_c0_, 0, none⟩)].toArray), (4, .int .i64 0)]) (fun u4 g5 => Sat w0 (keys ([] : List Ent)) A [.ro (Lk N63 a0 xg0_), .ro (RdS N63.R (SV.v s0_) xg0_), .ro (BoxS b1_c0_ 9 [.string a1_c0_0])]) ⟨rfl, rfl, rfl, rfl, rfl, trivial⟩ (fun _ h => h.picks [0, 0, 0] rfl) (nat_lt _) (fun _ h => by have h1 := (FactAt.get (.ro 1 rfl) h).1; rw [lk_len hL0_] at h1; exact h1) (fun _ _ => ⟨rfl, rfl, rfl, rfl⟩) ⟨rfl, rfl, rfl, rfl, rfl⟩ rfl rfl rfl (fun u4 g5 e => ?_) (fun aftk6 i1 x2 u4 g5 k6 hx3 hs J hJk6 hBk6 hX I cnk6 => ?_)
  · have hm := Flow.fin_b e hm
    refine nj_seq ?_
    refine cj_seq ?_
    refine cj_reg ?_
    refine lp rfl (p_as rfl) ?_
    refine lj_seq ?_
    obtain rfl := Option.some.inj hm
    exact cj_rt () [] Tryd.results88 (.tmp rfl .nil) rfl rfl
  · have hRk6 : ∀ t, k6 = .ret t → some t = some r := fun t e => by rw [hX t e] at hm; exact hm
    have hm := hs
    refine cj_seq ?_
    refine cj_reg ?_
    refine lp rfl (p_mv rfl) ?_
    refine lp rfl (p_as rfl) ?_
    refine lj_seq ?_
    refine cj_seq ?_
    refine cj_reg ?_
    refine lp rfl (p_mv rfl) ?_
    refine lp rfl (p_mv rfl) ?_
    refine lp rfl (p_mv rfl) ?_
    obtain ⟨gx2, hx3G⟩ := lk_get hL0_ hx3
    refine lp rfl (p_idx Tryd.underlying26 ty63 rfl rfl (.ro 1 rfl) (getI_nat.trans hx3G)) ?_
    refine lp rfl (p_leaN (cs := [.string x2.Key, .string x2.Places, .int .i64 x2.Long, gx2.v]) ty63 rfl (.ro 1 rfl) hx3G rfl) ?_
    obtain ⟨y8, hy8, hm⟩ := bindS hm
    refine r_call [] cf90 rfl rfl (ok_gleeref2_ItemAt_1 x2 gx2 b1_c0_ a1_c0_0 hy8) rfl rfl (.cons (.imp (.ro 0 rfl) (fun _ h => (Lk.at_ h hx3G))) (.cons (.ro 2 rfl) .nil)) (fun _ => rfl) rfl (fun _ => ?_)
    refine lj_seq ?_
    refine cj_if (b := y8) rfl (fun hb => ?_) (fun hb => ?_)
    · have hm := ifB_t hb hm
      refine cj_seq ?_
      refine cj_reg ?_
      refine lp rfl (p_mv rfl) ?_
      refine lp rfl (p_as rfl) ?_
      refine lj_seq ?_
      have hm := hRk6 _ (Option.some.inj hm).symm
      obtain rfl := Option.some.inj hm
      exact cj_rt () [] Tryd.results88 (.tmp rfl .nil) rfl rfl
    · have hm := ifB_f hb hm
      refine cj_skip ?_
      refine nj_blk ?_
      exact cnk6 _ _ () () (hJk6 _ (Option.some.inj hm).symm) ⟨rfl, rfl, rfl, rfl, rfl, trivial⟩ (fun _ h => h.picks [0, 0, 0] rfl)
theorem ok_gleeref2_ItemAt (s0_ : SV) (xg0_ : List (TItem × SV)) (a0 : (List TItem)) (a1 : ByteArray) {r : Int} (hm : m_gleeref2_ItemAt a0 a1 = some r) :
    Ctr Tryd.prog 55 [s0_.v, .string a1].toArray ([] : List Ent) [Lk N63 a0 xg0_, RdS N63.R (SV.v s0_) xg0_] (X := Unit) (fun _ => .int .i64 r) (fun _ => []) := by
  unfold m_gleeref2_ItemAt at hm
  refine ctr_mk (vs := [(0, s0_.v), (1, .string a1)]) Tryd.func55 rfl Tryd.ntmps55 rfl ⟨rfl, rfl, trivial⟩ (fun w0 A => ?_)
  refine cj_pure (F := Lk N63 a0 xg0_) (.ro 0 rfl) (fun _ h => h.1) (fun hL0_ => ?_)
  refine cj_seq ?_
  refine cj_reg ?_
  refine r_bx (cs := [.string a1]) rfl rfl rfl (fun b1 => ?_)
  refine lp rfl (p_as rfl) ?_
  refine lj_seq ?_
  refine cj_seq ?_
  refine cj_reg ?_
  refine lp rfl (p_mv rfl) ?_
  refine lp rfl (p_fn (cv := [.pointer (some ⟨b1, 0, none⟩)]) rfl) ?_
  obtain ⟨y2, hy2, hm⟩ := bindS hm
  refine r_call [] cf88 rfl rfl (ok_slices_IndexFunc_api_Item_api_Item__gleeref2_ItemAt_1 s0_ xg0_ a0 b1 a1 hy2) rfl rfl (.cons (.ro 1 rfl) (.cons (.ro 2 rfl) (.cons (.imp (.box 0 rfl) (fun _ h => h)) .nil))) (fun _ => rfl) rfl (fun _ => ?_)
  refine lp rfl (p_as rfl) ?_
  refine lj_seq ?_
  obtain rfl := Option.some.inj hm
  exact cj_rt () [] Tryd.results55 (.tmp rfl .nil) rfl rfl
theorem ok_gleeref2_Rising (s0_ : SV) (a0 : (List ByteArray)) {r : Int} (hm : m_gleeref2_Rising a0 = some r) :
    Ctr Tryd.prog 56 [s0_.v].toArray ([] : List Ent) [RdS R9 (SV.v s0_) a0] (X := Unit) (fun _ => .int .i64 r) (fun _ => []) := by
  unfold m_gleeref2_Rising at hm
  refine ctr_mk (vs := [(0, s0_.v)]) Tryd.func56 rfl Tryd.ntmps56 rfl ⟨rfl, trivial⟩ (fun w0 A => ?_)
  refine cj_seq ?_
  refine cj_reg ?_
  refine lp rfl (p_as rfl) ?_
  refine lj_seq ?_
  refine cj_seq ?_
  refine cj_seq ?_
  refine cj_reg ?_
  refine lp rfl (p_mv rfl) ?_
  refine lp rfl (p_len Tryd.underlying49 rfl (.ro 0 rfl)) ?_
  refine lp rfl (p_mv rfl) ?_
  refine lj_seq ?_
  obtain ⟨f7, hf7, hm⟩ := bindS hm
  refine cj_range (γ := Unit) (m := (a0.length : Int)) hf7 () (fun u4 g5 => [(0, s0_.v), (2, .int .i64 0), (5, s0_.v)]) (fun u4 g5 => Sat w0 (keys ([] : List Ent)) A [.ro (RdS R9 (SV.v s0_) a0)]) ⟨rfl, rfl, rfl, rfl, rfl, trivial⟩ (fun _ h => h.picks [0] rfl) (nat_lt _) (fun _ h => (FactAt.get (.ro 0 rfl) h).1) (fun _ _ => ⟨rfl, rfl, rfl, rfl⟩) ⟨rfl, rfl, rfl, rfl, rfl⟩ rfl rfl rfl (fun u4 g5 e => ?_) (fun aftk6 i1 x2 u4 g5 k6 hx3 hs J hJk6 hBk6 hX I cnk6 => ?_)
  · have hm := Flow.fin_b e hm
    refine nj_seq ?_
    refine cj_seq ?_
    refine cj_reg ?_
    refine lp rfl (p_as rfl) ?_
    refine lj_seq ?_
    obtain rfl := Option.some.inj hm
    exact cj_rt () [] Tryd.results56 (.tmp rfl .nil) rfl rfl
  · have hRk6 : ∀ t, k6 = .ret t → some t = some r := fun t e => by rw [hX t e] at hm; exact hm
    have hm := hs
    refine cj_seq ?_
    refine cj_reg ?_
    refine lp rfl (p_mv rfl) ?_
    refine lp rfl (p_idx Tryd.underlying49 ty9 rfl rfl (.ro 0 rfl) (getI_nat.trans hx3)) ?_
    refine lp rfl (p_lde (o := 0) ty9 rfl rfl (.ro 0 rfl) hx3 rfl) ?_
    refine lp rfl (p_as rfl) ?_
    refine lp rfl (p_as rfl) ?_
    refine lj_seq ?_
    refine cj_seq ?_
    refine cj_seq ?_
    refine cj_reg ?_
    refine lp rfl (p_mv rfl) ?_
    obtain ⟨y8, hy8, hm⟩ := bindS hm
    refine r_call [] cf54 rfl rfl (ok_gleeref2_Key x2 hy8) rfl rfl .nil (fun _ => rfl) rfl (fun _ => ?_)
    refine lp rfl (p_not rfl) ?_
    refine lj_seq ?_
    refine cj_if (b := !y8) rfl (fun hb => ?_) (fun hb => ?_)
    · have hm := ifB_t hb hm
      refine cj_seq ?_
      refine cj_reg ?_
      refine lp rfl (p_as rfl) ?_
      refine lj_seq ?_
      have hm := hRk6 _ (Option.some.inj hm).symm
      obtain rfl := Option.some.inj hm
      exact cj_rt () [] Tryd.results56 (.tmp rfl .nil) rfl rfl
    · have hm := ifB_f hb hm
      refine cj_skip ?_
      refine nj_seq ?_
      refine cj_seq ?_
      refine cj_reg ?_
      obtain ⟨k11, hk11, hm⟩ := bindS hm
      have hRk11 : ∀ t, k11 = .inr t → some t = some k6 := fun t e => by rw [e] at hm; exact hm
      refine lj_join (σ := Bool) (γ := Unit) (fun u9 => k11 = .inl u9) (fun u9 g10 => [(0, s0_.v), (2, .int .i64 0), (5, s0_.v), (6, .int .i64 (a0.length : Int)), (7, .int .i64 (i1 : Int)), (25, .bool u9)]) (fun u9 g10 => Sat w0 (keys ([] : List Ent)) A [.ro (RdS R9 (SV.v s0_) a0)]) (fun u9 g10 hq => ?_) (fun J cnk11 => ?_)
      · have hm := Sum.fin_l hq hm
        refine cj_if (b := u9) rfl (fun hb => ?_) (fun hb => ?_)
        · have hm := ifB_t hb hm
          refine cj_seq ?_
          refine cj_reg ?_
          refine lp rfl (p_as rfl) ?_
          refine lj_seq ?_
          have hm := hRk6 _ (Option.some.inj hm).symm
          obtain rfl := Option.some.inj hm
          exact cj_rt () [] Tryd.results56 (.tmp rfl .nil) rfl rfl
        · have hm := ifB_f hb hm
          refine cj_skip ?_
          refine nj_blk ?_
          exact cnk6 _ _ () () (hJk6 _ (Option.some.inj hm).symm) ⟨rfl, rfl, rfl, rfl, rfl, trivial⟩ (fun _ h => h.picks [0] rfl)
      · have hm := hk11
        refine lp rfl (p_mv rfl) ?_
        refine lp rfl (p_gtr rfl rfl) ?_
        refine lp rfl (p_mv rfl) ?_
        refine lcase (i := 17) (decide ((i1 : Int) > 0)) rfl (fun hb => ?_) (fun hb => ?_)
        · have hm := ifB_t hb hm
          refine lg true rfl rfl rfl ?_
          refine lp rfl (p_mv rfl) ?_
          refine lg true rfl rfl rfl ?_
          refine lp rfl (p_mv rfl) ?_
          refine lg true rfl rfl rfl ?_
          refine lp rfl (p_mv rfl) ?_
          refine lg true rfl rfl rfl ?_
          refine lp rfl (p_sub rfl rfl) ?_
          refine lg true rfl rfl rfl ?_
          obtain ⟨e12, he12, hm⟩ := bindS hm
          refine lp rfl (p_idx Tryd.underlying49 ty9 rfl rfl (.ro 0 rfl) he12) ?_
          refine lg true rfl rfl rfl ?_
          refine lp rfl (p_lde (o := 0) ty9 rfl rfl (.ro 0 rfl) (getI_spec he12).2 rfl) ?_
          refine lg true rfl rfl rfl ?_
          refine lp rfl (p_les rfl rfl) ?_
          refine lp rfl (p_pkt rfl rfl) ?_
          refine lj_nil ?_
          exact cnk11 _ _ (Op.bytesLess x2.toList e12.toList || x2.toList == e12.toList) () (Option.some.inj hm).symm ⟨rfl, rfl, rfl, rfl, rfl, rfl, trivial⟩ (fun _ h => h.picks [0] rfl)
        · have hm := ifB_f hb hm
          refine ls true rfl rfl rfl rfl ?_
          refine ls true rfl rfl rfl rfl ?_
          refine ls true rfl rfl rfl rfl ?_
          refine ls true rfl rfl rfl rfl ?_
          refine ls true rfl rfl rfl rfl ?_
          refine ls true rfl rfl rfl rfl ?_
          refine ls true rfl rfl rfl rfl ?_
          refine lp rfl (p_pkf rfl rfl) ?_
          refine lj_nil ?_
          exact cnk11 _ _ false () (Option.some.inj hm).symm ⟨rfl, rfl, rfl, rfl, rfl, rfl, trivial⟩ (fun _ h => h.picks [0] rfl)
theorem ok_gleeref2_ItemsFault (s0_ : SV) (xg0_ : List (TItem × SV)) (a0 : (List TItem)) {r : Int} (hm : m_gleeref2_ItemsFault a0 = some r) :
    Ctr Tryd.prog 17 [s0_.v].toArray ([] : List Ent) [Lk N63 a0 xg0_, RdS N63.R (SV.v s0_) xg0_] (X := Unit) (fun _ => .int .i64 r) (fun _ => []) := by
  unfold m_gleeref2_ItemsFault at hm
  refine ctr_mk (vs := [(0, s0_.v)]) Tryd.func17 rfl Tryd.ntmps17 rfl ⟨rfl, trivial⟩ (fun w0 A => ?_)
  refine cj_pure (F := Lk N63 a0 xg0_) (.ro 0 rfl) (fun _ h => h.1) (fun hL0_ => ?_)
  refine cj_seq ?_
  refine cj_reg ?_
  refine lp rfl (p_as rfl) ?_
  refine lj_seq ?_
  refine cj_seq ?_
  refine cj_seq ?_
  refine cj_reg ?_
  refine lp rfl (p_mv rfl) ?_
  refine lp rfl (p_lenG hL0_ Tryd.underlying26 rfl (.ro 1 rfl)) ?_
  refine lp rfl (p_gtr rfl rfl) ?_
  refine lj_seq ?_
  refine cj_if (b := decide ((a0.length : Int) > 60)) rfl (fun hb => ?_) (fun hb => ?_)
  · have hm := ifB_t hb hm
    refine cj_seq ?_
    refine cj_reg ?_
    refine lp rfl (p_as rfl) ?_
    refine lj_seq ?_
    obtain rfl := Option.some.inj hm
    exact cj_rt () [] Tryd.results17 (.tmp rfl .nil) rfl rfl
  · have hm := ifB_f hb hm
    refine cj_skip ?_
    refine nj_seq ?_
    refine cj_seq ?_
    refine cj_seq ?_
    refine cj_reg ?_
    refine lp rfl (p_mv rfl) ?_
    refine lp rfl (p_lenG hL0_ Tryd.underlying26 rfl (.ro 1 rfl)) ?_
    refine lp rfl (p_mv rfl) ?_
    refine lj_seq ?_
    obtain ⟨f7, hf7, hm⟩ := bindS hm
    refine cj_range (γ := Unit) (m := (a0.length : Int)) hf7 () (fun u4 g5 => [(0, s0_.v), (2, .int .i64 0), (9, s0_.v)]) (fun u4 g5 => Sat w0 (keys ([] : List Ent)) A [.ro (Lk N63 a0 xg0_), .ro (RdS N63.R (SV.v s0_) xg0_)]) ⟨rfl, rfl, rfl, rfl, rfl, trivial⟩ (fun _ h => h.picks [0, 0] rfl) (nat_lt _) (fun _ h => by have h1 := (FactAt.get (.ro 1 rfl) h).1; rw [lk_len hL0_] at h1; exact h1) (fun _ _ => ⟨rfl, rfl, rfl, rfl⟩) ⟨rfl, rfl, rfl, rfl, rfl⟩ rfl rfl rfl (fun u4 g5 e => ?_) (fun aftk6 i1 x2 u4 g5 k6 hx3 hs J hJk6 hBk6 hX I cnk6 => ?_)
    · have hm := Flow.fin_b e hm
      refine nj_seq ?_
      refine cj_seq ?_
      refine cj_reg ?_
      refine lp rfl (p_as rfl) ?_
      refine lj_seq ?_
      obtain rfl := Option.some.inj hm
      exact cj_rt () [] Tryd.results17 (.tmp rfl .nil) rfl rfl
    · have hRk6 : ∀ t, k6 = .ret t → some t = some r := fun t e => by rw [hX t e] at hm; exact hm
      have hm := hs
      refine cj_seq ?_
      refine cj_reg ?_
      refine lp rfl (p_mv rfl) ?_
      obtain ⟨gx2, hx3G⟩ := lk_get hL0_ hx3
      refine lp rfl (p_idx Tryd.underlying26 ty63 rfl rfl (.ro 1 rfl) (getI_nat.trans hx3G)) ?_
      refine lp rfl (p_leaN (cs := [.string x2.Key, .string x2.Places, .int .i64 x2.Long, gx2.v]) ty63 rfl (.ro 1 rfl) hx3G rfl) ?_
      refine r_al ty63 rfl (fun b8 => ?_)
      refine lp rfl (p_as rfl) ?_
      refine r_sb (vs := [.string x2.Key, .string x2.Places, .int .i64 x2.Long, gx2.v]) (j := 0) ty63 rfl rfl rfl rfl rfl rfl rfl ?_
      refine lj_seq ?_
      refine cj_seq ?_
      refine cj_blk ?_
      refine cj_seq ?_
      refine cj_reg ?_
      obtain ⟨k11, hk11, hm⟩ := bindS hm
      have hRk11 : ∀ t, k11 = .inr t → some t = some k6 := fun t e => by rw [e] at hm; exact hm
      refine lj_join (σ := Bool) (γ := Unit) (fun u9 => k11 = .inl u9) (fun u9 g10 => [(0, s0_.v), (2, .int .i64 0), (3, .int .i64 (i1 : Int)), (4, .pointer (some ⟨b8, 0, none⟩)), (9, s0_.v), (10, .int .i64 (a0.length : Int)), (11, .int .i64 (i1 : Int)), (16, .bool u9)]) (fun u9 g10 => Sat w0 (keys ([] : List Ent)) A [.box b8 63 [.string x2.Key, .string x2.Places, .int .i64 x2.Long, gx2.v], .ro (Lk N63 a0 xg0_), .ro (RdS N63.R (SV.v s0_) xg0_)]) (fun u9 g10 hq => ?_) (fun J cnk11 => ?_)
      · have hm := Sum.fin_l hq hm
        refine cj_if (b := u9) rfl (fun hb => ?_) (fun hb => ?_)
        · have hm := ifB_t hb hm
          refine cj_seq ?_
          refine cj_reg ?_
          refine lp rfl (p_as rfl) ?_
          refine lj_seq ?_
          have hm := hRk6 _ (Option.some.inj hm).symm
          obtain rfl := Option.some.inj hm
          exact cj_rt () [] Tryd.results17 (.tmp rfl .nil) rfl rfl
        · have hm := ifB_f hb hm
          refine cj_seq ?_
          refine cj_quiet (by kernel_rfl) (by kernel_rfl) ?_
          refine q_p rfl (p_mv rfl) ?_
          refine q_p rfl (p_mv rfl) ?_
          obtain ⟨q14, hq14, hm⟩ := bindS hm
          obtain ⟨q14G, hq14G, hLq14, hsq14⟩ := lk_cut hL0_ hq14
          refine q_p rfl (p_cut Tryd.underlying26 ty63 rfl rfl rfl rfl rfl (.ro 2 rfl) rfl rfl hq14G) ?_
          refine q_p rfl (p_fab fl63_0 rfl) ?_
          refine q_p rfl (p_lbs ty9 rfl (j := 0) rfl rfl) ?_
          obtain ⟨y15, hy15, hm⟩ := bindS hm
          refine q_call (.int .i64 y15) cf55 rfl rfl (ok_gleeref2_ItemAt (s0_.sub N63.R.sz (0 : Int).toNat (i1 : Int).toNat) q14G q14 x2.Key hy15) (.cons (.imp (.ro 1 rfl) (fun _ h => Lk.sub h hLq14 hsq14)) (.cons (.imp (.ro 2 rfl) (fun _ h => h.cut hq14G)) .nil)) (fun _ => rfl) (fun _ => rfl) rfl ?_
          refine q_p rfl (p_geq rfl rfl) ?_
          refine q_p rfl (p_as rfl) ?_
          refine q_nil ?_
          refine nj_seq ?_
          refine cj_if (b := decide (y15 ≥ 0)) rfl (fun hb => ?_) (fun hb => ?_)
          · have hm := ifB_t hb hm
            refine cj_seq ?_
            refine cj_reg ?_
            refine lp rfl (p_as rfl) ?_
            refine lj_seq ?_
            have hm := hRk6 _ (Option.some.inj hm).symm
            obtain rfl := Option.some.inj hm
            exact cj_rt () [] Tryd.results17 (.tmp rfl .nil) rfl rfl
          · have hm := ifB_f hb hm
            refine cj_seq ?_
            refine cj_reg ?_
            refine lp rfl (p_fab fl63_2 rfl) ?_
            refine lp rfl (p_lbs ty3 rfl (j := 0) rfl rfl) ?_
            obtain ⟨y16, hy16, hm⟩ := bindS hm
            refine r_call [] cf46 rfl rfl (ok_gleeref2_in x2.Long 1 86400000 hy16) rfl rfl .nil (fun _ => rfl) rfl (fun _ => ?_)
            refine lp rfl (p_not rfl) ?_
            refine lp rfl (p_as rfl) ?_
            refine lj_seq ?_
            refine cj_if (b := !y16) rfl (fun hb => ?_) (fun hb => ?_)
            · have hm := ifB_t hb hm
              refine cj_seq ?_
              refine cj_reg ?_
              refine lp rfl (p_as rfl) ?_
              refine lj_seq ?_
              have hm := hRk6 _ (Option.some.inj hm).symm
              obtain rfl := Option.some.inj hm
              exact cj_rt () [] Tryd.results17 (.tmp rfl .nil) rfl rfl
            · have hm := ifB_f hb hm
              refine cj_seq ?_
              refine cj_reg ?_
              refine lp rfl (p_fab fl63_3 rfl) ?_
              refine lp rfl (p_lbs ty49 rfl (j := 0) rfl rfl) ?_
              refine lp rfl (p_len Tryd.underlying49 rfl (.imp (.ro 1 rfl) (fun _ h => (Lk.at_ h hx3G)))) ?_
              refine lp rfl (p_eql rfl rfl) ?_
              refine lp rfl (p_as rfl) ?_
              refine lj_seq ?_
              refine cj_if (b := (x2.Parts.length : Int) == 0) rfl (fun hb => ?_) (fun hb => ?_)
              · have hm := ifB_t hb hm
                refine cj_seq ?_
                refine cj_reg ?_
                refine lp rfl (p_as rfl) ?_
                refine lj_seq ?_
                have hm := hRk6 _ (Option.some.inj hm).symm
                obtain rfl := Option.some.inj hm
                exact cj_rt () [] Tryd.results17 (.tmp rfl .nil) rfl rfl
              · have hm := ifB_f hb hm
                refine cj_seq ?_
                refine cj_reg ?_
                refine lp rfl (p_fab fl63_3 rfl) ?_
                refine lp rfl (p_lbs ty49 rfl (j := 0) rfl rfl) ?_
                refine lp rfl (p_len Tryd.underlying49 rfl (.imp (.ro 1 rfl) (fun _ h => (Lk.at_ h hx3G)))) ?_
                refine lp rfl (p_gtr rfl rfl) ?_
                refine lp rfl (p_as rfl) ?_
                refine lj_seq ?_
                refine cj_if (b := decide ((x2.Parts.length : Int) > 12)) rfl (fun hb => ?_) (fun hb => ?_)
                · have hm := ifB_t hb hm
                  refine cj_seq ?_
                  refine cj_reg ?_
                  refine lp rfl (p_as rfl) ?_
                  refine lj_seq ?_
                  have hm := hRk6 _ (Option.some.inj hm).symm
                  obtain rfl := Option.some.inj hm
                  exact cj_rt () [] Tryd.results17 (.tmp rfl .nil) rfl rfl
                · have hm := ifB_f hb hm
                  refine cj_skip ?_
                  refine nj_blk ?_
                  refine nj_seq ?_
                  refine cj_seq ?_
                  refine cj_reg ?_
                  refine lp rfl (p_fab fl63_3 rfl) ?_
                  refine lp rfl (p_lbs ty49 rfl (j := 0) rfl rfl) ?_
                  obtain ⟨y17, hy17, hm⟩ := bindS hm
                  refine r_call [] cf56 rfl rfl (ok_gleeref2_Rising gx2 x2.Parts hy17) rfl rfl (.cons (.imp (.ro 1 rfl) (fun _ h => (Lk.at_ h hx3G))) .nil) (fun _ => rfl) rfl (fun _ => ?_)
                  refine lp rfl (p_as rfl) ?_
                  refine lj_seq ?_
                  refine cj_seq ?_
                  refine cj_reg ?_
                  refine lp rfl (p_mv rfl) ?_
                  refine lp rfl (p_neq rfl rfl) ?_
                  refine lj_seq ?_
                  refine cj_if (b := y17 != 0) rfl (fun hb => ?_) (fun hb => ?_)
                  · have hm := ifB_t hb hm
                    refine cj_seq ?_
                    refine cj_reg ?_
                    refine lp rfl (p_mv rfl) ?_
                    refine lp rfl (p_as rfl) ?_
                    refine lj_seq ?_
                    have hm := hRk6 _ (Option.some.inj hm).symm
                    obtain rfl := Option.some.inj hm
                    exact cj_rt () [] Tryd.results17 (.tmp rfl .nil) rfl rfl
                  · have hm := ifB_f hb hm
                    refine cj_skip ?_
                    refine nj_blk ?_
                    exact cnk6 _ _ () () (hJk6 _ (Option.some.inj hm).symm) ⟨rfl, rfl, rfl, rfl, rfl, trivial⟩ (fun _ h => h.picks [1, 1] rfl)
      · have hm := hk11
        refine lp rfl (p_fab fl63_0 rfl) ?_
        refine lp rfl (p_lbs ty9 rfl (j := 0) rfl rfl) ?_
        obtain ⟨y12, hy12, hm⟩ := bindS hm
        refine r_call [] cf54 rfl rfl (ok_gleeref2_Key x2.Key hy12) rfl rfl .nil (fun _ => rfl) rfl (fun _ => ?_)
        refine lp rfl (p_not rfl) ?_
        refine lp rfl (p_mv rfl) ?_
        refine lcase (i := 21) (!y12) rfl (fun hb => ?_) (fun hb => ?_)
        · have hm := ifB_t hb hm
          refine ls false rfl rfl rfl rfl ?_
          refine ls false rfl rfl rfl rfl ?_
          refine ls false rfl rfl rfl rfl ?_
          refine ls false rfl rfl rfl rfl ?_
          refine lp rfl (p_pkt rfl rfl) ?_
          refine lp rfl (p_as rfl) ?_
          refine lj_nil ?_
          exact cnk11 _ _ true () (Option.some.inj hm).symm ⟨rfl, rfl, rfl, rfl, rfl, rfl, rfl, rfl, trivial⟩ (fun _ h => h.picks [0, 0, 0] rfl)
        · have hm := ifB_f hb hm
          refine lg false rfl rfl rfl ?_
          refine lp rfl (p_fab fl63_1 rfl) ?_
          refine lg false rfl rfl rfl ?_
          refine lp rfl (p_lbs ty9 rfl (j := 0) rfl rfl) ?_
          refine lg false rfl rfl rfl ?_
          obtain ⟨y13, hy13, hm⟩ := bindS hm
          refine r_call [] cf54 rfl rfl (ok_gleeref2_Key x2.Places hy13) rfl rfl .nil (fun _ => rfl) rfl (fun _ => ?_)
          refine lg false rfl rfl rfl ?_
          refine lp rfl (p_not rfl) ?_
          refine lp rfl (p_pkf rfl rfl) ?_
          refine lp rfl (p_as rfl) ?_
          refine lj_nil ?_
          exact cnk11 _ _ (!y13) () (Option.some.inj hm).symm ⟨rfl, rfl, rfl, rfl, rfl, rfl, rfl, rfl, trivial⟩ (fun _ h => h.picks [0, 0, 0] rfl)
end Go.Proofs.YtpllnghmnihjhaaDoor
