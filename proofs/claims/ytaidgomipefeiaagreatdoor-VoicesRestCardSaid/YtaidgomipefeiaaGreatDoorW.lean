/- The walks. Written by program. -/
import Derived.Test.YtaidgomipefeiaaGreatDoorD
import Derived.Test.YtaidgomipefeiaaGreatDoorXV
namespace Go.Proofs.YtaidgomipefeiaaGreatDoor
open Go Go.J Go.G
set_option maxRecDepth 100000
set_option linter.unusedVariables false
theorem ok_gleemake_Below (a0 : Int) (a1 : Int) {r : Int} (hm : m_gleemake_Below a0 a1 = some r) :
    Ctr Tryz.prog 45 [.int .i64 a0, .int .i64 a1].toArray ([] : List Ent) [] (X := Unit) (fun _ => .int .i64 r) (fun _ => []) := by
  unfold m_gleemake_Below at hm
  refine ctr_mk (vs := [(0, .int .i64 a0), (1, .int .i64 a1)]) Tryz.func45 rfl Tryz.ntmps45 rfl ⟨rfl, rfl, trivial⟩ (fun w0 A => ?_)
  refine cj_seq ?_
  refine cj_reg ?_
  refine lp rfl (p_as rfl) ?_
  refine lj_seq ?_
  refine cj_seq ?_
  refine cj_seq ?_
  refine cj_reg ?_
  refine lp rfl (p_mv rfl) ?_
  refine lp rfl (p_lss rfl rfl) ?_
  refine lj_seq ?_
  refine cj_if (b := decide (a1 < 1)) rfl (fun hb => ?_) (fun hb => ?_)
  · have hm := ifB_t hb hm
    refine cj_seq ?_
    refine cj_reg ?_
    refine lp rfl (p_as rfl) ?_
    refine lj_seq ?_
    obtain rfl := Option.some.inj hm
    exact cj_rt () [] Tryz.results45 (.tmp rfl .nil) rfl rfl
  · have hm := ifB_f hb hm
    refine cj_skip ?_
    refine nj_seq ?_
    refine cj_seq ?_
    refine cj_reg ?_
    refine lp rfl (p_mv rfl) ?_
    refine lp rfl (p_mv rfl) ?_
    obtain ⟨z1, hz1, hm⟩ := bindS hm
    refine lp rfl (p_remM hz1 rfl rfl) ?_
    refine lp rfl (p_as rfl) ?_
    refine lj_seq ?_
    refine cj_seq ?_
    refine cj_seq ?_
    refine cj_reg ?_
    refine lp rfl (p_mv rfl) ?_
    refine lp rfl (p_lss rfl rfl) ?_
    refine lj_seq ?_
    refine cj_if (b := decide (z1 < 0)) rfl (fun hb => ?_) (fun hb => ?_)
    · have hm := ifB_t hb hm
      refine cj_reg ?_
      refine lp rfl (p_mv rfl) ?_
      refine lp rfl (p_mv rfl) ?_
      refine lp rfl (p_add rfl rfl) ?_
      refine lp rfl (p_as rfl) ?_
      refine lj_seq ?_
      refine cj_seq ?_
      refine cj_reg ?_
      refine lp rfl (p_mv rfl) ?_
      refine lp rfl (p_as rfl) ?_
      refine lj_seq ?_
      obtain rfl := Option.some.inj hm
      exact cj_rt () [] Tryz.results45 (.tmp rfl .nil) rfl rfl
    · have hm := ifB_f hb hm
      refine cj_skip ?_
      refine nj_seq ?_
      refine cj_seq ?_
      refine cj_reg ?_
      refine lp rfl (p_mv rfl) ?_
      refine lp rfl (p_as rfl) ?_
      refine lj_seq ?_
      obtain rfl := Option.some.inj hm
      exact cj_rt () [] Tryz.results45 (.tmp rfl .nil) rfl rfl
theorem ok_gleemake_Stream_Next (b0_ : Nat) (s0_0_ : SV) (a0_0 : (List Int)) (a0_1 : Int) (a1 : Int) {r : Int × Int} (hm : m_gleemake_Stream_Next a0_0 a0_1 a1 = some r) :
    Ctr Tryz.prog 21 [.pointer (some ⟨b0_, 0, none⟩), .int .i64 a1].toArray [.box b0_ 25 [s0_0_.v, .int .i64 a0_1]] [RdS R3 (SV.v s0_0_) a0_0] (X := Unit) (fun _ => .int .i64 r.1) (fun _ => [.box b0_ 25 [s0_0_.v, .int .i64 r.2]]) := by
  unfold m_gleemake_Stream_Next at hm
  refine ctr_mk (vs := [(0, .pointer (some ⟨b0_, 0, none⟩)), (1, .int .i64 a1)]) Tryz.func21 rfl Tryz.ntmps21 rfl ⟨rfl, rfl, trivial⟩ (fun w0 A => ?_)
  refine cj_seq ?_
  refine cj_reg ?_
  refine lp rfl (p_as rfl) ?_
  refine lj_seq ?_
  refine cj_seq ?_
  refine cj_reg ?_
  refine lp rfl (p_mv rfl) ?_
  refine lp rfl (p_nc rfl) ?_
  refine lp rfl (p_fab fl25_1 rfl) ?_
  refine lp rfl (p_lbs ty3 rfl (j := 0) rfl rfl) ?_
  refine lp rfl (p_add rfl rfl) ?_
  refine lp rfl (p_nc rfl) ?_
  refine lp rfl (p_fab fl25_1 rfl) ?_
  refine r_sb (vs := [.int .i64 (w64 (a0_1 + 1))]) (j := 0) ty3 rfl rfl rfl rfl rfl rfl rfl ?_
  refine lj_seq ?_
  refine cj_seq ?_
  refine cj_seq ?_
  refine cj_reg ?_
  refine lp rfl (p_mv rfl) ?_
  refine lp rfl (p_nc rfl) ?_
  refine lp rfl (p_fab fl25_0 rfl) ?_
  refine lp rfl (p_lbs ty22 rfl (j := 0) rfl rfl) ?_
  refine lp rfl (p_len Tryz.underlying22 rfl (.ro 1 rfl)) ?_
  refine lp rfl (p_eql rfl rfl) ?_
  refine lj_seq ?_
  refine cj_if (b := (a0_0.length : Int) == 0) rfl (fun hb => ?_) (fun hb => ?_)
  · have hm := ifB_t hb hm
    refine cj_seq ?_
    refine cj_reg ?_
    refine lp rfl (p_mv rfl) ?_
    refine lp rfl (p_nc rfl) ?_
    refine lp rfl (p_fab fl25_1 rfl) ?_
    refine lp rfl (p_lbs ty3 rfl (j := 0) rfl rfl) ?_
    refine lp rfl (p_mul rfl rfl) ?_
    refine lp rfl (p_mv rfl) ?_
    obtain ⟨y1, hy1, hm⟩ := bindS hm
    refine r_call [] cf45 rfl rfl (ok_gleemake_Below (w64 ((w64 (a0_1 + 1)) * 7919)) a1 hy1) rfl rfl .nil (fun _ => rfl) rfl (fun _ => ?_)
    refine lp rfl (p_as rfl) ?_
    refine lj_seq ?_
    obtain rfl := Option.some.inj hm
    exact cj_rt () [0] Tryz.results21 (.tmp rfl .nil) rfl rfl
  · have hm := ifB_f hb hm
    refine cj_skip ?_
    refine nj_seq ?_
    refine cj_seq ?_
    refine cj_quiet (by kernel_rfl) (by kernel_rfl) ?_
    refine q_p rfl (p_mv rfl) ?_
    refine q_p rfl (p_nc rfl) ?_
    refine q_p rfl (p_fab fl25_1 rfl) ?_
    refine q_p rfl (p_lbs ty3 rfl (j := 0) rfl rfl) ?_
    refine q_p rfl (p_sub rfl rfl) ?_
    refine q_p rfl (p_mv rfl) ?_
    refine q_p rfl (p_nc rfl) ?_
    refine q_p rfl (p_fab fl25_0 rfl) ?_
    refine q_p rfl (p_lbs ty22 rfl (j := 0) rfl rfl) ?_
    refine q_p rfl (p_len Tryz.underlying22 rfl (.ro 1 rfl)) ?_
    obtain ⟨z2, hz2, hm⟩ := bindS hm
    refine q_p rfl (p_remM hz2 rfl rfl) ?_
    refine q_p rfl (p_as rfl) ?_
    refine q_nil ?_
    refine nj_seq ?_
    refine cj_seq ?_
    refine cj_quiet (by kernel_rfl) (by kernel_rfl) ?_
    refine q_p rfl (p_mv rfl) ?_
    refine q_p rfl (p_nc rfl) ?_
    refine q_p rfl (p_fab fl25_1 rfl) ?_
    refine q_p rfl (p_lbs ty3 rfl (j := 0) rfl rfl) ?_
    refine q_p rfl (p_sub rfl rfl) ?_
    refine q_p rfl (p_mv rfl) ?_
    refine q_p rfl (p_nc rfl) ?_
    refine q_p rfl (p_fab fl25_0 rfl) ?_
    refine q_p rfl (p_lbs ty22 rfl (j := 0) rfl rfl) ?_
    refine q_p rfl (p_len Tryz.underlying22 rfl (.ro 1 rfl)) ?_
    obtain ⟨z3, hz3, hm⟩ := bindS hm
    refine q_p rfl (p_quoM hz3 rfl rfl) ?_
    refine q_p rfl (p_as rfl) ?_
    refine q_nil ?_
    refine nj_seq ?_
    refine cj_seq ?_
    refine cj_reg ?_
    refine lp rfl (p_mv rfl) ?_
    refine lp rfl (p_nc rfl) ?_
    refine lp rfl (p_fab fl25_0 rfl) ?_
    refine lp rfl (p_lbs ty22 rfl (j := 0) rfl rfl) ?_
    refine lp rfl (p_mv rfl) ?_
    obtain ⟨e4, he4, hm⟩ := bindS hm
    refine lp rfl (p_idx Tryz.underlying22 ty3 rfl rfl (.ro 1 rfl) he4) ?_
    refine lp rfl (p_lde (o := 0) ty3 rfl rfl (.ro 1 rfl) (getI_spec he4).2 rfl) ?_
    obtain ⟨y5, hy5, hm⟩ := bindS hm
    refine r_call [] cf45 rfl rfl (ok_gleemake_Below e4 1073741824 hy5) rfl rfl .nil (fun _ => rfl) rfl (fun _ => ?_)
    refine lp rfl (p_mv rfl) ?_
    refine lp rfl (p_mv rfl) ?_
    refine lp rfl (p_add rfl rfl) ?_
    refine lp rfl (p_mul rfl rfl) ?_
    refine lp rfl (p_add rfl rfl) ?_
    refine lp rfl (p_mv rfl) ?_
    obtain ⟨y6, hy6, hm⟩ := bindS hm
    refine r_call [] cf45 rfl rfl (ok_gleemake_Below (w64 (y5 + (w64 (z3 * (w64 (7919 + z2)))))) a1 hy6) rfl rfl .nil (fun _ => rfl) rfl (fun _ => ?_)
    refine lp rfl (p_as rfl) ?_
    refine lj_seq ?_
    obtain rfl := Option.some.inj hm
    exact cj_rt () [0] Tryz.results21 (.tmp rfl .nil) rfl rfl
theorem ok_gleemake_Stream_Pick (b0_ : Nat) (s0_0_ : SV) (a0_0 : (List Int)) (a0_1 : Int) (s1_ : SV) (a1 : (List Int)) {r : Int × Int} (hm : m_gleemake_Stream_Pick a0_0 a0_1 a1 = some r) :
    Ctr Tryz.prog 6 [.pointer (some ⟨b0_, 0, none⟩), s1_.v].toArray [.box b0_ 25 [s0_0_.v, .int .i64 a0_1]] [RdS R3 (SV.v s0_0_) a0_0, RdS R3 (SV.v s1_) a1] (X := Unit) (fun _ => .int .i64 r.1) (fun _ => [.box b0_ 25 [s0_0_.v, .int .i64 r.2]]) := by
  unfold m_gleemake_Stream_Pick at hm
  refine ctr_mk (vs := [(0, .pointer (some ⟨b0_, 0, none⟩)), (1, s1_.v)]) Tryz.func6 rfl Tryz.ntmps6 rfl ⟨rfl, rfl, trivial⟩ (fun w0 A => ?_)
  refine cj_seq ?_
  refine cj_reg ?_
  refine lp rfl (p_as rfl) ?_
  refine lj_seq ?_
  refine cj_seq ?_
  refine cj_reg ?_
  refine lp rfl (p_mv rfl) ?_
  refine lp rfl (p_mv rfl) ?_
  refine lp rfl (p_mv rfl) ?_
  refine lp rfl (p_len Tryz.underlying22 rfl (.ro 2 rfl)) ?_
  obtain ⟨y1, hy1, hm⟩ := bindS hm
  refine r_call [0] cf21 rfl rfl (ok_gleemake_Stream_Next b0_ s0_0_ a0_0 a0_1 (a1.length : Int) hy1) rfl rfl (.cons (.ro 0 rfl) .nil) (fun _ => rfl) rfl (fun _ => ?_)
  obtain ⟨e2, he2, hm⟩ := bindS hm
  refine lp rfl (p_idx Tryz.underlying22 ty3 rfl rfl (.ro 2 rfl) he2) ?_
  refine lp rfl (p_lde (o := 0) ty3 rfl rfl (.ro 2 rfl) (getI_spec he2).2 rfl) ?_
  refine lp rfl (p_as rfl) ?_
  refine lj_seq ?_
  obtain rfl := Option.some.inj hm
  exact cj_rt () [0] Tryz.results6 (.tmp rfl .nil) rfl rfl
theorem ok_gleemake_Stream_Flip (b0_ : Nat) (s0_0_ : SV) (a0_0 : (List Int)) (a0_1 : Int) (a1 : Int) {r : Bool × Int} (hm : m_gleemake_Stream_Flip a0_0 a0_1 a1 = some r) :
    Ctr Tryz.prog 20 [.pointer (some ⟨b0_, 0, none⟩), .int .i64 a1].toArray [.box b0_ 25 [s0_0_.v, .int .i64 a0_1]] [RdS R3 (SV.v s0_0_) a0_0] (X := Unit) (fun _ => .bool r.1) (fun _ => [.box b0_ 25 [s0_0_.v, .int .i64 r.2]]) := by
  unfold m_gleemake_Stream_Flip at hm
  refine ctr_mk (vs := [(0, .pointer (some ⟨b0_, 0, none⟩)), (1, .int .i64 a1)]) Tryz.func20 rfl Tryz.ntmps20 rfl ⟨rfl, rfl, trivial⟩ (fun w0 A => ?_)
  refine cj_seq ?_
  refine cj_reg ?_
  refine lp rfl (p_as rfl) ?_
  refine lj_seq ?_
  refine cj_seq ?_
  refine cj_reg ?_
  refine lp rfl (p_mv rfl) ?_
  refine lp rfl (p_mv rfl) ?_
  obtain ⟨y1, hy1, hm⟩ := bindS hm
  refine r_call [0] cf21 rfl rfl (ok_gleemake_Stream_Next b0_ s0_0_ a0_0 a0_1 a1 hy1) rfl rfl (.cons (.ro 0 rfl) .nil) (fun _ => rfl) rfl (fun _ => ?_)
  refine lp rfl (p_eql rfl rfl) ?_
  refine lp rfl (p_as rfl) ?_
  refine lj_seq ?_
  obtain rfl := Option.some.inj hm
  exact cj_rt () [0] Tryz.results20 (.tmp rfl .nil) rfl rfl
theorem ok_gleemake_Stream_Some (b0_ : Nat) (s0_0_ : SV) (a0_0 : (List Int)) (a0_1 : Int) (s1_ : SV) (a1 : (List ByteArray)) {r : ByteArray × Int} (hm : m_gleemake_Stream_Some a0_0 a0_1 a1 = some r) :
    Ctr Tryz.prog 5 [.pointer (some ⟨b0_, 0, none⟩), s1_.v].toArray [.box b0_ 25 [s0_0_.v, .int .i64 a0_1]] [RdS R3 (SV.v s0_0_) a0_0, RdS R9 (SV.v s1_) a1] (X := Unit) (fun _ => .string r.1) (fun _ => [.box b0_ 25 [s0_0_.v, .int .i64 r.2]]) := by
  unfold m_gleemake_Stream_Some at hm
  refine ctr_mk (vs := [(0, .pointer (some ⟨b0_, 0, none⟩)), (1, s1_.v)]) Tryz.func5 rfl Tryz.ntmps5 rfl ⟨rfl, rfl, trivial⟩ (fun w0 A => ?_)
  refine cj_seq ?_
  refine cj_reg ?_
  refine lp rfl (p_as rfl) ?_
  refine lj_seq ?_
  refine cj_seq ?_
  refine cj_reg ?_
  refine lp rfl (p_mv rfl) ?_
  refine lp rfl (p_mv rfl) ?_
  refine lp rfl (p_mv rfl) ?_
  refine lp rfl (p_len Tryz.underlying55 rfl (.ro 2 rfl)) ?_
  obtain ⟨y1, hy1, hm⟩ := bindS hm
  refine r_call [0] cf21 rfl rfl (ok_gleemake_Stream_Next b0_ s0_0_ a0_0 a0_1 (a1.length : Int) hy1) rfl rfl (.cons (.ro 0 rfl) .nil) (fun _ => rfl) rfl (fun _ => ?_)
  obtain ⟨e2, he2, hm⟩ := bindS hm
  refine lp rfl (p_idx Tryz.underlying55 ty9 rfl rfl (.ro 2 rfl) he2) ?_
  refine lp rfl (p_lde (o := 0) ty9 rfl rfl (.ro 2 rfl) (getI_spec he2).2 rfl) ?_
  refine lp rfl (p_as rfl) ?_
  refine lj_seq ?_
  obtain rfl := Option.some.inj hm
  exact cj_rt () [0] Tryz.results5 (.tmp rfl .nil) rfl rfl
theorem ok_gleemake_Stream_RightProgram (b0_ : Nat) (s0_0_ : SV) (a0_0 : (List Int)) (a0_1 : Int) (a1 : Int) {r : TProgram × Int} (hm : m_gleemake_Stream_RightProgram a0_0 a0_1 a1 = some r) :
    Ctr Tryz.prog 19 [.pointer (some ⟨b0_, 0, none⟩), .int .i64 a1].toArray [.box b0_ 25 [s0_0_.v, .int .i64 a0_1]] [RdS R3 (SV.v s0_0_) a0_0] (X := (SV × List (TItem × SV))) (fun s => .agg [s.1.v, .int .i64 r.1.Change, .int .i64 r.1.Clap, .int .i64 r.1.Break, .int .i64 r.1.Half].toArray) (fun s => [.row N57.R (SV.v s.1) s.2, .ro (Lk N57 r.1.Items s.2), .box b0_ 25 [s0_0_.v, .int .i64 r.2]]) := by
  unfold m_gleemake_Stream_RightProgram at hm
  refine ctr_mk (vs := [(0, .pointer (some ⟨b0_, 0, none⟩)), (1, .int .i64 a1)]) Tryz.func19 rfl Tryz.ntmps19 rfl ⟨rfl, rfl, trivial⟩ (fun w0 A => ?_)
  refine cj_seq ?_
  refine cj_reg ?_
  refine r_al ty28 rfl (fun b1 => ?_)
  refine lj_seq ?_
  refine cj_seq ?_
  refine cj_reg ?_
  refine lp rfl (p_mv rfl) ?_
  refine r_bs R3 [0, 30, 50] rfl rfl rfl (fun _ => by kernel_rfl) rfl (fun s2 => ?_)
  obtain ⟨y3, hy3, hm⟩ := bindS hm
  refine r_call [2] cf6 rfl rfl (ok_gleemake_Stream_Pick b0_ s0_0_ a0_0 a0_1 s2 [0, 30, 50] hy3) rfl rfl (.cons (.ro 2 rfl) (.cons (.row 0 rfl) .nil)) (fun _ => rfl) rfl (fun _ => ?_)
  refine lp rfl (p_mv rfl) ?_
  refine r_bs R3 [0, 10, 30] rfl rfl rfl (fun _ => by kernel_rfl) rfl (fun s4 => ?_)
  obtain ⟨y5, hy5, hm⟩ := bindS hm
  refine r_call [1] cf6 rfl rfl (ok_gleemake_Stream_Pick b0_ s0_0_ a0_0 y3.2 s4 [0, 10, 30] hy5) rfl rfl (.cons (.ro 3 rfl) (.cons (.row 0 rfl) .nil)) (fun _ => rfl) rfl (fun _ => ?_)
  refine lp rfl (p_mv rfl) ?_
  refine r_bs R3 [0, 100] rfl rfl rfl (fun _ => by kernel_rfl) rfl (fun s6 => ?_)
  obtain ⟨y7, hy7, hm⟩ := bindS hm
  refine r_call [1] cf6 rfl rfl (ok_gleemake_Stream_Pick b0_ s0_0_ a0_0 y5.2 s6 [0, 100] hy7) rfl rfl (.cons (.ro 4 rfl) (.cons (.row 0 rfl) .nil)) (fun _ => rfl) rfl (fun _ => ?_)
  refine lp rfl (p_bld [.slice none 0 0, .int .i64 y3.1, .int .i64 y5.1, .int .i64 y7.1, .int .i64 (-1)] rfl (fun _ => by kernel_rfl)) ?_
  refine r_al ty28 rfl (fun b8 => ?_)
  refine r_sb (vs := [.slice none 0 0, .int .i64 y3.1, .int .i64 y5.1, .int .i64 y7.1, .int .i64 (-1)]) (j := 0) ty28 rfl rfl rfl rfl rfl rfl rfl ?_
  refine lj_seq ?_
  refine cj_seq ?_
  refine cj_seq ?_
  refine cj_reg ?_
  refine r_bs R9 [(ByteArray.mk [99].toArray), (ByteArray.mk [97].toArray), (ByteArray.mk [100].toArray), (ByteArray.mk [98].toArray), (ByteArray.mk [101].toArray)] rfl rfl rfl (fun _ => by kernel_rfl) rfl (fun s9 => ?_)
  refine lp rfl (p_mv rfl) ?_
  obtain ⟨q10, hq10, hm⟩ := bindS hm
  refine lp rfl (p_cut Tryz.underlying55 ty9 rfl rfl rfl rfl rfl (.row 0 rfl) rfl rfl hq10) ?_
  refine lp rfl (p_len Tryz.underlying55 rfl (.imp (.row 0 rfl) (fun _ h => h.cut hq10))) ?_
  refine lp rfl (p_mv rfl) ?_
  refine lj_seq ?_
  refine cj_fact (F := Lk N57 [] []) (.nilL N57) ?_
  refine cj_nil N57.R ?_
  obtain ⟨f18, hf18, hm⟩ := bindS hm
  refine cj_range (γ := (SV × List (TItem × SV))) (m := (q10.length : Int)) hf18 (nilS, []) (fun u15 g16 => [(0, .pointer (some ⟨b0_, 0, none⟩)), (4, .pointer (some ⟨b1, 0, none⟩)), (5, .pointer (some ⟨b8, 0, none⟩)), (23, (s9.sub R9.sz (0 : Int).toNat a1.toNat).v)]) (fun u15 g16 => Sat w0 (keys [.box b0_ 25 [s0_0_.v, .int .i64 a0_1]]) A [.row R9 (SV.v s9) [(ByteArray.mk [99].toArray), (ByteArray.mk [97].toArray), (ByteArray.mk [100].toArray), (ByteArray.mk [98].toArray), (ByteArray.mk [101].toArray)], .box b8 28 [g16.1.v, .int .i64 y3.1, .int .i64 y5.1, .int .i64 y7.1, .int .i64 (-1)], .box b0_ 25 [s0_0_.v, .int .i64 u15.1], .box b1 28 [.slice none 0 0, .int .i64 0, .int .i64 0, .int .i64 0, .int .i64 0], .ro (RdS R3 (SV.v s0_0_) a0_0), .row N57.R (SV.v g16.1) g16.2, .ro (Lk N57 u15.2 g16.2)]) ⟨rfl, rfl, rfl, rfl, rfl, rfl, trivial⟩ (fun _ h => h.picks [2, 2, 2, 5, 5, 0, 0] rfl) (nat_lt _) (fun _ h => (FactAt.get (F := RdS R9 (SV.v (s9.sub R9.sz (0 : Int).toNat a1.toNat)) q10) (.imp (.row 2 rfl) (fun _ h => h.cut hq10)) h).1) (fun _ _ => ⟨rfl, rfl, rfl, rfl⟩) ⟨rfl, rfl, rfl, rfl, rfl⟩ rfl rfl rfl (fun u15 g16 e => ?_) (fun aftk17 i11 x12 u15 g16 k17 hx13 hs J hJk17 hBk17 hX I cnk17 => ?_)
  · have hm := Flow.fin_b e hm
    refine nj_pure (F := Lk N57 u15.2 g16.2) (.ro 6 rfl) (fun _ h => h.1) (fun hLu15_K50 => ?_)
    refine nj_seq ?_
    refine cj_seq ?_
    refine cj_seq ?_
    refine cj_reg ?_
    obtain ⟨k53, hk53, hm⟩ := bindS hm
    have hRk53 : ∀ t, k53 = .inr t → some t = some r := fun t e => by rw [e] at hm; exact hm
    refine lj_join (σ := (Bool × Int)) (γ := Unit) (fun u51 => k53 = .inl u51) (fun u51 g52 => [(0, .pointer (some ⟨b0_, 0, none⟩)), (4, .pointer (some ⟨b1, 0, none⟩)), (5, .pointer (some ⟨b8, 0, none⟩)), (74, .bool u51.1)]) (fun u51 g52 => Sat w0 (keys [.box b0_ 25 [s0_0_.v, .int .i64 a0_1]]) A [.box b8 28 [g16.1.v, .int .i64 y3.1, .int .i64 y5.1, .int .i64 y7.1, .int .i64 (-1)], .box b0_ 25 [s0_0_.v, .int .i64 u51.2], .box b1 28 [.slice none 0 0, .int .i64 0, .int .i64 0, .int .i64 0, .int .i64 0], .ro (RdS R3 (SV.v s0_0_) a0_0), .row N57.R (SV.v g16.1) g16.2, .ro (Lk N57 u15.2 g16.2)]) (fun u51 g52 hq => ?_) (fun J cnk53 => ?_)
    · have hm := Sum.fin_l hq hm
      refine cj_if (b := u51.1) rfl (fun hb => ?_) (fun hb => ?_)
      · have hm := ifB_t hb hm
        refine cj_reg ?_
        refine lp rfl (p_mv rfl) ?_
        refine lp rfl (p_fab fl28_0 rfl) ?_
        refine lp rfl (p_lbs ty26 rfl (j := 0) rfl rfl) ?_
        refine lp rfl (p_lenG hLu15_K50 Tryz.underlying26 rfl (.row 4 rfl)) ?_
        refine lp rfl (p_sub rfl rfl) ?_
        obtain ⟨y55, hy55, hm⟩ := bindS hm
        refine r_call [1] cf21 rfl rfl (ok_gleemake_Stream_Next b0_ s0_0_ a0_0 u51.2 (w64 ((u15.2.length : Int) - 1)) hy55) rfl rfl (.cons (.ro 2 rfl) .nil) (fun _ => rfl) rfl (fun _ => ?_)
        refine lp rfl (p_fab fl28_4 rfl) ?_
        refine r_sb (vs := [.int .i64 y55.1]) (j := 1) ty3 rfl rfl rfl rfl rfl rfl rfl ?_
        refine lj_seq ?_
        refine cj_seq ?_
        refine cj_reg ?_
        refine lp rfl (p_lbw ty28 rfl (j := 1) rfl rfl) ?_
        refine r_sb (vs := [g16.1.v, .int .i64 y3.1, .int .i64 y5.1, .int .i64 y7.1, .int .i64 y55.1]) (j := 2) ty28 rfl rfl rfl rfl rfl rfl rfl ?_
        refine lj_seq ?_
        obtain rfl := Option.some.inj hm
        exact cj_rt (g16.1, g16.2) [4, 4, 0] Tryz.results19 (.agg (k := 2) ty28 rfl rfl rfl .nil) rfl rfl
      · have hm := ifB_f hb hm
        refine cj_skip ?_
        refine nj_seq ?_
        refine cj_seq ?_
        refine cj_reg ?_
        refine lp rfl (p_lbw ty28 rfl (j := 0) rfl rfl) ?_
        refine r_sb (vs := [g16.1.v, .int .i64 y3.1, .int .i64 y5.1, .int .i64 y7.1, .int .i64 (-1)]) (j := 2) ty28 rfl rfl rfl rfl rfl rfl rfl ?_
        refine lj_seq ?_
        obtain rfl := Option.some.inj hm
        exact cj_rt (g16.1, g16.2) [4, 4, 1] Tryz.results19 (.agg (k := 2) ty28 rfl rfl rfl .nil) rfl rfl
    · have hm := hk53
      refine lp rfl (p_fab fl28_0 rfl) ?_
      refine lp rfl (p_lbs ty26 rfl (j := 1) rfl rfl) ?_
      refine lp rfl (p_lenG hLu15_K50 Tryz.underlying26 rfl (.row 5 rfl)) ?_
      refine lp rfl (p_gtr rfl rfl) ?_
      refine lp rfl (p_mv rfl) ?_
      refine lcase (i := 71) (decide ((u15.2.length : Int) > 1)) rfl (fun hb => ?_) (fun hb => ?_)
      · have hm := ifB_t hb hm
        refine lg true rfl rfl rfl ?_
        refine lp rfl (p_mv rfl) ?_
        refine lg true rfl rfl rfl ?_
        obtain ⟨y54, hy54, hm⟩ := bindS hm
        refine r_call [2] cf20 rfl rfl (ok_gleemake_Stream_Flip b0_ s0_0_ a0_0 u15.1 2 hy54) rfl rfl (.cons (.ro 3 rfl) .nil) (fun _ => rfl) rfl (fun _ => ?_)
        refine lp rfl (p_pkt rfl rfl) ?_
        refine lj_nil ?_
        exact cnk53 _ _ (y54.1, y54.2) () (Option.some.inj hm).symm ⟨rfl, rfl, rfl, rfl, trivial⟩ (fun _ h => h.picks [2, 0, 1, 1, 1, 1] rfl)
      · have hm := ifB_f hb hm
        refine ls true rfl rfl rfl rfl ?_
        refine ls true rfl rfl rfl rfl ?_
        refine lp rfl (p_pkf rfl rfl) ?_
        refine lj_nil ?_
        exact cnk53 _ _ (false, u15.1) () (Option.some.inj hm).symm ⟨rfl, rfl, rfl, rfl, trivial⟩ (fun _ h => h.picks [1, 1, 1, 1, 1, 1] rfl)
  · have hRk17 : ∀ t, k17 = .ret t → some t = some r := fun t e => by rw [hX t e] at hm; exact hm
    have hm := hs
    refine cj_pure (F := Lk N57 u15.2 g16.2) (.ro 6 rfl) (fun _ h => h.1) (fun hLu15_K19 => ?_)
    refine cj_seq ?_
    refine cj_reg ?_
    refine lp rfl (p_idx Tryz.underlying55 ty9 rfl rfl (.imp (.row 0 rfl) (fun _ h => h.cut hq10)) (getI_nat.trans hx13)) ?_
    refine lp rfl (p_lde (o := 0) ty9 rfl rfl (.imp (.row 0 rfl) (fun _ h => h.cut hq10)) hx13 rfl) ?_
    refine lp rfl (p_as rfl) ?_
    refine lj_seq ?_
    refine cj_seq ?_
    refine cj_seq ?_
    refine cj_reg ?_
    refine lp rfl (p_mv rfl) ?_
    obtain ⟨y20, hy20, hm⟩ := bindS hm
    refine r_call [2] cf20 rfl rfl (ok_gleemake_Stream_Flip b0_ s0_0_ a0_0 u15.1 6 hy20) rfl rfl (.cons (.ro 3 rfl) .nil) (fun _ => rfl) rfl (fun _ => ?_)
    refine lj_seq ?_
    refine cj_if (b := y20.1) rfl (fun hb => ?_) (fun hb => ?_)
    · have hm := ifB_t hb hm
      refine cj_exit rfl ?_
      exact cnk17 _ _ (y20.2, u15.2) (g16.1, g16.2) (hJk17 _ (Option.some.inj hm).symm) ⟨rfl, rfl, rfl, rfl, rfl, rfl, trivial⟩ (fun _ h => h.picks [1, 1, 0, 0, 0, 0, 0] rfl)
    · have hm := ifB_f hb hm
      refine cj_skip ?_
      refine nj_seq ?_
      refine cj_seq ?_
      refine cj_reg ?_
      refine lp rfl (p_mv rfl) ?_
      refine lp rfl (p_mv rfl) ?_
      refine r_bs R9 [(ByteArray.mk [114, 111, 119, 115].toArray), (ByteArray.mk [114, 111, 119, 115].toArray), (ByteArray.mk [99, 105, 114, 99, 108, 101].toArray)] rfl rfl rfl (fun _ => by kernel_rfl) rfl (fun s21 => ?_)
      obtain ⟨y22, hy22, hm⟩ := bindS hm
      refine r_call [1] cf5 rfl rfl (ok_gleemake_Stream_Some b0_ s0_0_ a0_0 y20.2 s21 [(ByteArray.mk [114, 111, 119, 115].toArray), (ByteArray.mk [114, 111, 119, 115].toArray), (ByteArray.mk [99, 105, 114, 99, 108, 101].toArray)] hy22) rfl rfl (.cons (.ro 4 rfl) (.cons (.row 0 rfl) .nil)) (fun _ => rfl) rfl (fun _ => ?_)
      refine lp rfl (p_mv rfl) ?_
      refine r_bs R3 [50, 100, 100, 200] rfl rfl rfl (fun _ => by kernel_rfl) rfl (fun s23 => ?_)
      obtain ⟨y24, hy24, hm⟩ := bindS hm
      refine r_call [1] cf6 rfl rfl (ok_gleemake_Stream_Pick b0_ s0_0_ a0_0 y22.2 s23 [50, 100, 100, 200] hy24) rfl rfl (.cons (.ro 5 rfl) (.cons (.row 0 rfl) .nil)) (fun _ => rfl) rfl (fun _ => ?_)
      refine lp rfl (p_bld [.string x12, .string y22.1, .int .i64 y24.1, .slice none 0 0] rfl (fun _ => by kernel_rfl)) ?_
      refine r_al ty57 rfl (fun b25 => ?_)
      refine r_sb (vs := [.string x12, .string y22.1, .int .i64 y24.1, .slice none 0 0]) (j := 0) ty57 rfl rfl rfl rfl rfl rfl rfl ?_
      refine lj_seq ?_
      refine cj_seq ?_
      refine cj_seq ?_
      refine cj_reg ?_
      refine r_bs R9 [(ByteArray.mk [97, 108, 116, 111].toArray), (ByteArray.mk [98, 97, 115, 115].toArray), (ByteArray.mk [115, 111, 108, 105].toArray)] rfl rfl rfl (fun _ => by kernel_rfl) rfl (fun s26 => ?_)
      refine lp rfl (p_len Tryz.underlying55 rfl (.row 0 rfl)) ?_
      refine lp rfl (p_mv rfl) ?_
      refine lj_seq ?_
      refine cj_nil R9 ?_
      obtain ⟨f34, hf34, hm⟩ := bindS hm
      refine cj_range (γ := SV) (m := ([(ByteArray.mk [97, 108, 116, 111].toArray), (ByteArray.mk [98, 97, 115, 115].toArray), (ByteArray.mk [115, 111, 108, 105].toArray)].length : Int)) hf34 nilS (fun u31 g32 => [(0, .pointer (some ⟨b0_, 0, none⟩)), (4, .pointer (some ⟨b1, 0, none⟩)), (5, .pointer (some ⟨b8, 0, none⟩)), (8, .pointer (some ⟨b25, 0, none⟩)), (23, (s9.sub R9.sz (0 : Int).toNat a1.toNat).v), (24, .int .i64 (q10.length : Int)), (25, .int .i64 (i11 : Int)), (39, s26.v)]) (fun u31 g32 => Sat w0 (keys [.box b0_ 25 [s0_0_.v, .int .i64 a0_1]]) A [.row R9 (SV.v s26) [(ByteArray.mk [97, 108, 116, 111].toArray), (ByteArray.mk [98, 97, 115, 115].toArray), (ByteArray.mk [115, 111, 108, 105].toArray)], .box b25 57 [.string x12, .string y22.1, .int .i64 y24.1, g32.v], .box b0_ 25 [s0_0_.v, .int .i64 u31.1], .row R9 (SV.v s9) [(ByteArray.mk [99].toArray), (ByteArray.mk [97].toArray), (ByteArray.mk [100].toArray), (ByteArray.mk [98].toArray), (ByteArray.mk [101].toArray)], .box b8 28 [g16.1.v, .int .i64 y3.1, .int .i64 y5.1, .int .i64 y7.1, .int .i64 (-1)], .box b1 28 [.slice none 0 0, .int .i64 0, .int .i64 0, .int .i64 0, .int .i64 0], .ro (RdS R3 (SV.v s0_0_) a0_0), .row N57.R (SV.v g16.1) g16.2, .ro (Lk N57 u15.2 g16.2), .row R9 (SV.v g32) u31.2]) ⟨rfl, rfl, rfl, rfl, rfl, rfl, rfl, rfl, rfl, rfl, trivial⟩ (fun _ h => h.picks [1, 1, 1, 3, 3, 3, 3, 3, 3, 0] rfl) (nat_lt _) (fun _ h => (FactAt.get (F := RdS R9 (SV.v s26) [(ByteArray.mk [97, 108, 116, 111].toArray), (ByteArray.mk [98, 97, 115, 115].toArray), (ByteArray.mk [115, 111, 108, 105].toArray)]) (.row 1 rfl) h).1) (fun _ _ => ⟨rfl, rfl, rfl, rfl⟩) ⟨rfl, rfl, rfl, rfl, rfl⟩ rfl rfl rfl (fun u31 g32 e => ?_) (fun aftk33 i27 x28 u31 g32 k33 hx29 hs J hJk33 hBk33 hX I cnk33 => ?_)
      · have hm := Flow.fin_b e hm
        refine nj_seq ?_
        refine cj_seq ?_
        refine cj_seq ?_
        refine cj_reg ?_
        refine lp rfl (p_fab fl57_3 rfl) ?_
        refine lp rfl (p_lbs ty55 rfl (j := 1) rfl rfl) ?_
        refine lp rfl (p_len Tryz.underlying55 rfl (.row 9 rfl)) ?_
        refine lp rfl (p_eql rfl rfl) ?_
        refine lj_seq ?_
        obtain ⟨k44, hk44, hm⟩ := bindS hm
        have hRk44 : ∀ t, k44 = .inr t → some t = some k17 := fun t e => by rw [e] at hm; exact hm
        refine cj_joinK (σ := (List ByteArray)) (γ := SV) (fun u41 => k44 = .inl u41) (fun u41 g42 => [(0, .pointer (some ⟨b0_, 0, none⟩)), (4, .pointer (some ⟨b1, 0, none⟩)), (5, .pointer (some ⟨b8, 0, none⟩)), (8, .pointer (some ⟨b25, 0, none⟩)), (23, (s9.sub R9.sz (0 : Int).toNat a1.toNat).v), (24, .int .i64 (q10.length : Int)), (25, .int .i64 (i11 : Int))]) (fun u41 g42 => Sat w0 (keys [.box b0_ 25 [s0_0_.v, .int .i64 a0_1]]) A [.box b25 57 [.string x12, .string y22.1, .int .i64 y24.1, g42.v], .box b0_ 25 [s0_0_.v, .int .i64 u31.1], .row R9 (SV.v s9) [(ByteArray.mk [99].toArray), (ByteArray.mk [97].toArray), (ByteArray.mk [100].toArray), (ByteArray.mk [98].toArray), (ByteArray.mk [101].toArray)], .box b8 28 [g16.1.v, .int .i64 y3.1, .int .i64 y5.1, .int .i64 y7.1, .int .i64 (-1)], .box b1 28 [.slice none 0 0, .int .i64 0, .int .i64 0, .int .i64 0, .int .i64 0], .ro (RdS R3 (SV.v s0_0_) a0_0), .row N57.R (SV.v g16.1) g16.2, .ro (Lk N57 u15.2 g16.2), .row R9 (SV.v g42) u41]) (fun u41 g42 hq => ?_) (fun J cnk44 => ?_)
        · have hm := Sum.fin_l hq hm
          refine cj_reg ?_
          refine lp rfl (p_fab fl28_0 rfl) ?_
          refine lp rfl (p_lbs ty26 rfl (j := 3) rfl rfl) ?_
          refine lp rfl (p_lbw ty57 rfl (j := 0) rfl rfl) ?_
          refine r_fz 8 rfl ?_
          refine r_fact (F := Lk N57 [(TItem.mk x12 y22.1 y24.1 u41)] [((TItem.mk x12 y22.1 y24.1 u41), g42)]) (.imp (.and (.ro 0 rfl) (.nilL N57)) (fun _ h => Lk.cons h.1 h.2)) ?_
          have hLs46 : (([((TItem.mk x12 y22.1 y24.1 u41), g42)] : List (TItem × SV)).map Prod.fst) = ([(TItem.mk x12 y22.1 y24.1 u41)] : List TItem) := rfl
          refine r_bs N57.R [((TItem.mk x12 y22.1 y24.1 u41), g42)] rfl rfl rfl (fun _ => by kernel_rfl) rfl (fun s46 => ?_)
          obtain ⟨q47, hq47, hm⟩ := bindS hm
          refine r_fact (F := Lk N57 q47 (g16.2 ++ [((TItem.mk x12 y22.1 y24.1 u41), g42)])) (.imp (.and (.ro 10 rfl) (.ro 1 rfl)) (fun _ h => Lk.app hq47 h.1 h.2)) ?_
          refine r_app (k := 10) Tryz.underlying26 ty57 rfl rfl rfl rfl (.row 1 rfl) (lk_app hq47 hLu15_K19 hLs46) rfl (fun s48 => ?_)
          refine lp rfl (p_fab fl28_0 rfl) ?_
          refine r_sb (vs := [s48.v]) (j := 7) ty26 rfl rfl rfl rfl rfl rfl rfl ?_
          refine lj_nil ?_
          refine nj_blk ?_
          exact cnk17 _ _ (u31.1, q47) (s48, (g16.2 ++ [((TItem.mk x12 y22.1 y24.1 u41), g42)])) (hJk17 _ (Option.some.inj hm).symm) ⟨rfl, rfl, rfl, rfl, rfl, rfl, trivial⟩ (fun _ h => h.picks [6, 6, 5, 5, 5, 5, 0] rfl)
        · have hm := hk44
          refine cj_if (b := (u31.2.length : Int) == 0) rfl (fun hb => ?_) (fun hb => ?_)
          · have hm := ifB_t hb hm
            refine cj_reg ?_
            refine r_bs R9 [(ByteArray.mk [97, 108, 116, 111].toArray)] rfl rfl rfl (fun _ => by kernel_rfl) rfl (fun s45 => ?_)
            refine lp rfl (p_fab fl57_3 rfl) ?_
            refine r_sb (vs := [s45.v]) (j := 2) ty55 rfl rfl rfl rfl rfl rfl rfl ?_
            refine lj_nil ?_
            exact cnk44 _ _ [(ByteArray.mk [97, 108, 116, 111].toArray)] s45 (Option.some.inj hm).symm ⟨rfl, rfl, rfl, rfl, rfl, rfl, rfl, trivial⟩ (fun _ h => h.picks [2, 2, 2, 2, 2, 2, 2, 2, 0] rfl)
          · have hm := ifB_f hb hm
            refine cj_skip ?_
            exact cnk44 _ _ u31.2 g32 (Option.some.inj hm).symm ⟨rfl, rfl, rfl, rfl, rfl, rfl, rfl, trivial⟩ (fun _ h => h.picks [1, 1, 1, 1, 1, 1, 1, 1, 1] rfl)
      · have hRk33 : ∀ t, k33 = .ret t → some t = some k17 := fun t e => by rw [hX t e] at hm; exact hm
        have hm := hs
        refine cj_seq ?_
        refine cj_reg ?_
        refine lp rfl (p_idx Tryz.underlying55 ty9 rfl rfl (.row 0 rfl) (getI_nat.trans hx29)) ?_
        refine lp rfl (p_lde (o := 0) ty9 rfl rfl (.row 0 rfl) hx29 rfl) ?_
        refine lp rfl (p_as rfl) ?_
        refine lj_seq ?_
        refine cj_seq ?_
        refine cj_reg ?_
        refine lp rfl (p_mv rfl) ?_
        obtain ⟨y36, hy36, hm⟩ := bindS hm
        refine r_call [2] cf20 rfl rfl (ok_gleemake_Stream_Flip b0_ s0_0_ a0_0 u31.1 2 hy36) rfl rfl (.cons (.ro 5 rfl) .nil) (fun _ => rfl) rfl (fun _ => ?_)
        refine lj_seq ?_
        refine cj_if (b := y36.1) rfl (fun hb => ?_) (fun hb => ?_)
        · have hm := ifB_t hb hm
          refine cj_reg ?_
          refine lp rfl (p_fab fl57_3 rfl) ?_
          refine lp rfl (p_lbs ty55 rfl (j := 2) rfl rfl) ?_
          refine lp rfl (p_mv rfl) ?_
          refine r_bs R9 [x28] rfl rfl rfl (fun _ => by kernel_rfl) rfl (fun s37 => ?_)
          obtain ⟨q38, hq38, hm⟩ := bindS hm
          refine r_app (k := 10) Tryz.underlying55 ty9 rfl rfl rfl rfl (.row 0 rfl) hq38 rfl (fun s39 => ?_)
          refine lp rfl (p_fab fl57_3 rfl) ?_
          refine r_sb (vs := [s39.v]) (j := 3) ty55 rfl rfl rfl rfl rfl rfl rfl ?_
          refine lj_nil ?_
          refine nj_blk ?_
          exact cnk33 _ _ (y36.2, q38) s39 (hJk33 _ (Option.some.inj hm).symm) ⟨rfl, rfl, rfl, rfl, rfl, rfl, rfl, rfl, rfl, rfl, trivial⟩ (fun _ h => h.picks [2, 2, 1, 1, 1, 1, 1, 1, 1, 1] rfl)
        · have hm := ifB_f hb hm
          refine cj_skip ?_
          refine nj_blk ?_
          exact cnk33 _ _ (y36.2, u31.2) g32 (hJk33 _ (Option.some.inj hm).symm) ⟨rfl, rfl, rfl, rfl, rfl, rfl, rfl, rfl, rfl, rfl, trivial⟩ (fun _ h => h.picks [1, 1, 0, 0, 0, 0, 0, 0, 0, 0] rfl)
theorem ok_gleemake_Stream_Range (b0_ : Nat) (s0_0_ : SV) (a0_0 : (List Int)) (a0_1 : Int) (a1 : Int) (a2 : Int) {r : Int × Int} (hm : m_gleemake_Stream_Range a0_0 a0_1 a1 a2 = some r) :
    Ctr Tryz.prog 46 [.pointer (some ⟨b0_, 0, none⟩), .int .i64 a1, .int .i64 a2].toArray [.box b0_ 25 [s0_0_.v, .int .i64 a0_1]] [RdS R3 (SV.v s0_0_) a0_0] (X := Unit) (fun _ => .int .i64 r.1) (fun _ => [.box b0_ 25 [s0_0_.v, .int .i64 r.2]]) := by
  unfold m_gleemake_Stream_Range at hm
  refine ctr_mk (vs := [(0, .pointer (some ⟨b0_, 0, none⟩)), (1, .int .i64 a1), (2, .int .i64 a2)]) Tryz.func46 rfl Tryz.ntmps46 rfl ⟨rfl, rfl, rfl, trivial⟩ (fun w0 A => ?_)
  refine cj_seq ?_
  refine cj_reg ?_
  refine lp rfl (p_as rfl) ?_
  refine lj_seq ?_
  refine cj_seq ?_
  refine cj_seq ?_
  refine cj_reg ?_
  refine lp rfl (p_mv rfl) ?_
  refine lp rfl (p_mv rfl) ?_
  refine lp rfl (p_lss rfl rfl) ?_
  refine lj_seq ?_
  refine cj_if (b := decide (a2 < a1)) rfl (fun hb => ?_) (fun hb => ?_)
  · have hm := ifB_t hb hm
    refine cj_seq ?_
    refine cj_reg ?_
    refine lp rfl (p_mv rfl) ?_
    refine lp rfl (p_as rfl) ?_
    refine lj_seq ?_
    obtain rfl := Option.some.inj hm
    exact cj_rt () [0] Tryz.results46 (.tmp rfl .nil) rfl rfl
  · have hm := ifB_f hb hm
    refine cj_skip ?_
    refine nj_seq ?_
    refine cj_seq ?_
    refine cj_reg ?_
    refine lp rfl (p_mv rfl) ?_
    refine lp rfl (p_mv rfl) ?_
    refine lp rfl (p_mv rfl) ?_
    refine lp rfl (p_mv rfl) ?_
    refine lp rfl (p_sub rfl rfl) ?_
    refine lp rfl (p_add rfl rfl) ?_
    obtain ⟨y1, hy1, hm⟩ := bindS hm
    refine r_call [0] cf21 rfl rfl (ok_gleemake_Stream_Next b0_ s0_0_ a0_0 a0_1 (w64 ((w64 (a2 - a1)) + 1)) hy1) rfl rfl (.cons (.ro 0 rfl) .nil) (fun _ => rfl) rfl (fun _ => ?_)
    refine lp rfl (p_add rfl rfl) ?_
    refine lp rfl (p_as rfl) ?_
    refine lj_seq ?_
    obtain rfl := Option.some.inj hm
    exact cj_rt () [0] Tryz.results46 (.tmp rfl .nil) rfl rfl
theorem ok_gleemake_Stream_Odd (b0_ : Nat) (s0_0_ : SV) (a0_0 : (List Int)) (a0_1 : Int) (a1 : Int) (a2 : Int) {r : Int × Int} (hm : m_gleemake_Stream_Odd a0_0 a0_1 a1 a2 = some r) :
    Ctr Tryz.prog 22 [.pointer (some ⟨b0_, 0, none⟩), .int .i64 a1, .int .i64 a2].toArray [.box b0_ 25 [s0_0_.v, .int .i64 a0_1]] [RdS R3 (SV.v s0_0_) a0_0] (X := Unit) (fun _ => .int .i64 r.1) (fun _ => [.box b0_ 25 [s0_0_.v, .int .i64 r.2]]) := by
  unfold m_gleemake_Stream_Odd at hm
  refine ctr_mk (vs := [(0, .pointer (some ⟨b0_, 0, none⟩)), (1, .int .i64 a1), (2, .int .i64 a2)]) Tryz.func22 rfl Tryz.ntmps22 rfl ⟨rfl, rfl, rfl, trivial⟩ (fun w0 A => ?_)
  refine cj_seq ?_
  refine cj_reg ?_
  refine lp rfl (p_as rfl) ?_
  refine lj_seq ?_
  refine cj_seq ?_
  refine cj_seq ?_
  refine cj_reg ?_
  refine lp rfl (p_mv rfl) ?_
  obtain ⟨y1, hy1, hm⟩ := bindS hm
  refine r_call [0] cf20 rfl rfl (ok_gleemake_Stream_Flip b0_ s0_0_ a0_0 a0_1 12 hy1) rfl rfl (.cons (.ro 0 rfl) .nil) (fun _ => rfl) rfl (fun _ => ?_)
  refine lj_seq ?_
  refine cj_if (b := y1.1) rfl (fun hb => ?_) (fun hb => ?_)
  · have hm := ifB_t hb hm
    refine cj_seq ?_
    refine cj_reg ?_
    refine lp rfl (p_mv rfl) ?_
    refine lp rfl (p_mv rfl) ?_
    refine lp rfl (p_sub rfl rfl) ?_
    refine lp rfl (p_mv rfl) ?_
    refine lp rfl (p_add rfl rfl) ?_
    refine lp rfl (p_mv rfl) ?_
    refine lp rfl (p_mv rfl) ?_
    refine r_bs R3 [w64 (a1 - 1), w64 (a2 + 1), a1, a2, (-1099511627776), 1099511627776] rfl rfl rfl (fun _ => by kernel_rfl) rfl (fun s2 => ?_)
    obtain ⟨y3, hy3, hm⟩ := bindS hm
    refine r_call [1] cf6 rfl rfl (ok_gleemake_Stream_Pick b0_ s0_0_ a0_0 y1.2 s2 [w64 (a1 - 1), w64 (a2 + 1), a1, a2, (-1099511627776), 1099511627776] hy3) rfl rfl (.cons (.ro 1 rfl) (.cons (.row 0 rfl) .nil)) (fun _ => rfl) rfl (fun _ => ?_)
    refine lp rfl (p_as rfl) ?_
    refine lj_seq ?_
    obtain rfl := Option.some.inj hm
    exact cj_rt () [0] Tryz.results22 (.tmp rfl .nil) rfl rfl
  · have hm := ifB_f hb hm
    refine cj_skip ?_
    refine nj_seq ?_
    refine cj_seq ?_
    refine cj_reg ?_
    refine lp rfl (p_mv rfl) ?_
    refine lp rfl (p_mv rfl) ?_
    refine lp rfl (p_mv rfl) ?_
    obtain ⟨y4, hy4, hm⟩ := bindS hm
    refine r_call [0] cf46 rfl rfl (ok_gleemake_Stream_Range b0_ s0_0_ a0_0 y1.2 a1 a2 hy4) rfl rfl (.cons (.ro 0 rfl) .nil) (fun _ => rfl) rfl (fun _ => ?_)
    refine lp rfl (p_as rfl) ?_
    refine lj_seq ?_
    obtain rfl := Option.some.inj hm
    exact cj_rt () [0] Tryz.results22 (.tmp rfl .nil) rfl rfl
theorem ok_slices_Clone_string_string (s0_ : SV) (a0 : (List ByteArray)) {r : (List ByteArray)} (hm : m_slices_Clone_string_string a0 = some r) :
    Ctr Tryz.prog 23 [s0_.v].toArray ([] : List Ent) [RdS R9 (SV.v s0_) a0] (X := SV) (fun s => s.v) (fun s => [.row R9 (SV.v s) r]) := by
  unfold m_slices_Clone_string_string at hm
  refine ctr_mk (vs := [(0, s0_.v)]) Tryz.func23 rfl Tryz.ntmps23 rfl ⟨rfl, trivial⟩ (fun w0 A => ?_)
  refine cj_seq ?_
  refine cj_reg ?_
  refine lp rfl (p_as rfl) ?_
  refine lj_seq ?_
  refine cj_seq ?_
  refine cj_seq ?_
  refine cj_reg ?_
  refine lp rfl (p_mv rfl) ?_
  refine lp rfl (p_eqnil Tryz.underlying55 rfl rfl) ?_
  refine lj_seq ?_
  refine cj_if (b := s0_.a.isNone) rfl (fun hb => ?_) (fun hb => ?_)
  · refine cj_pure (F := RdS R9 (SV.v s0_) a0) (.ro 0 rfl) (fun _ h => h.nil_of hb) (fun h5 => ?_)
    have hm : some [] = some r := by rw [h5, appM_nn] at hm; exact hm
    refine cj_seq ?_
    refine cj_reg ?_
    refine lp rfl (p_as rfl) ?_
    refine lj_seq ?_
    obtain rfl := Option.some.inj hm
    refine cj_nil R9 ?_
    exact cj_rt nilS [0] Tryz.results23 (.tmp rfl .nil) rfl rfl
  · refine cj_skip ?_
    refine nj_seq ?_
    refine cj_seq ?_
    refine cj_reg ?_
    refine r_bs R9 ([] : List ByteArray) rfl rfl rfl (fun _ => by kernel_rfl) rfl (fun s2 => ?_)
    refine lp rfl (p_mv rfl) ?_
    obtain ⟨q3, hq3, hm⟩ := bindS hm
    refine r_app (k := 0) Tryz.underlying55 ty9 rfl rfl rfl rfl (.ro 1 rfl) hq3 rfl (fun s4 => ?_)
    refine lp rfl (p_as rfl) ?_
    refine lj_seq ?_
    obtain rfl := Option.some.inj hm
    exact cj_rt s4 [0] Tryz.results23 (.tmp rfl .nil) rfl rfl
theorem ok_gleemake_Stream_AProgram (b0_ : Nat) (s0_0_ : SV) (a0_0 : (List Int)) (a0_1 : Int) (a1 : Int) {r : TProgram × Int} (hm : m_gleemake_Stream_AProgram a0_0 a0_1 a1 = some r) :
    Ctr Tryz.prog 4 [.pointer (some ⟨b0_, 0, none⟩), .int .i64 a1].toArray [.box b0_ 25 [s0_0_.v, .int .i64 a0_1]] [RdS R3 (SV.v s0_0_) a0_0] (X := (SV × List (TItem × SV))) (fun s => .agg [s.1.v, .int .i64 r.1.Change, .int .i64 r.1.Clap, .int .i64 r.1.Break, .int .i64 r.1.Half].toArray) (fun s => [.row N57.R (SV.v s.1) s.2, .ro (Lk N57 r.1.Items s.2), .box b0_ 25 [s0_0_.v, .int .i64 r.2]]) := by
  unfold m_gleemake_Stream_AProgram at hm
  refine ctr_mk (vs := [(0, .pointer (some ⟨b0_, 0, none⟩)), (1, .int .i64 a1)]) Tryz.func4 rfl Tryz.ntmps4 rfl ⟨rfl, rfl, trivial⟩ (fun w0 A => ?_)
  refine cj_seq ?_
  refine cj_reg ?_
  refine r_al ty28 rfl (fun b1 => ?_)
  refine lj_seq ?_
  refine cj_seq ?_
  refine cj_reg ?_
  refine lp rfl (p_mv rfl) ?_
  refine lp rfl (p_mv rfl) ?_
  obtain ⟨y2, hy2, hm⟩ := bindS hm
  refine r_callN [1] cf19 rfl rfl (ok_gleemake_Stream_RightProgram b0_ s0_0_ a0_0 a0_1 a1 hy2) rfl rfl (.cons (.ro 1 rfl) .nil) rfl (fun ⟨s3, xg4⟩ => ?_)
  refine r_pure (F := Lk N57 y2.1.Items xg4) (.ro 1 rfl) (fun _ h => h.1) (fun hLs3 => ?_)
  refine r_al ty28 rfl (fun b5 => ?_)
  refine r_sb (vs := [s3.v, .int .i64 y2.1.Change, .int .i64 y2.1.Clap, .int .i64 y2.1.Break, .int .i64 y2.1.Half]) (j := 0) ty28 rfl rfl rfl rfl rfl rfl rfl ?_
  refine lj_seq ?_
  refine cj_seq ?_
  refine cj_seq ?_
  refine cj_reg ?_
  refine lp rfl (p_mv rfl) ?_
  obtain ⟨y6, hy6, hm⟩ := bindS hm
  refine r_call [3] cf20 rfl rfl (ok_gleemake_Stream_Flip b0_ s0_0_ a0_0 y2.2 12 hy6) rfl rfl (.cons (.ro 4 rfl) .nil) (fun _ => rfl) rfl (fun _ => ?_)
  refine lj_seq ?_
  refine cj_if (b := y6.1) rfl (fun hb => ?_) (fun hb => ?_)
  · have hm := ifB_t hb hm
    refine cj_seq ?_
    refine cj_reg ?_
    refine lp rfl (p_mv rfl) ?_
    obtain ⟨y7, hy7, hm⟩ := bindS hm
    refine r_call [0] cf21 rfl rfl (ok_gleemake_Stream_Next b0_ s0_0_ a0_0 y6.2 3 hy7) rfl rfl (.cons (.ro 4 rfl) .nil) (fun _ => rfl) rfl (fun _ => ?_)
    refine lj_seq ?_
    refine cj_blk ?_
    refine cj_seq ?_
    refine cj_reg ?_
    refine lp rfl (p_eql rfl rfl) ?_
    refine lp rfl (p_as rfl) ?_
    refine lj_seq ?_
    refine cj_if (b := y7.1 == 0) rfl (fun hb => ?_) (fun hb => ?_)
    · have hm := ifB_t hb hm
      refine cj_reg ?_
      refine lp rfl (p_mv rfl) ?_
      obtain ⟨y8, hy8, hm⟩ := bindS hm
      refine r_call [0] cf22 rfl rfl (ok_gleemake_Stream_Odd b0_ s0_0_ a0_0 y7.2 (-1) 4 hy8) rfl rfl (.cons (.ro 4 rfl) .nil) (fun _ => rfl) rfl (fun _ => ?_)
      refine lp rfl (p_fab fl28_4 rfl) ?_
      refine r_sb (vs := [.int .i64 y8.1]) (j := 1) ty3 rfl rfl rfl rfl rfl rfl rfl ?_
      refine lj_nil ?_
      refine nj_blk ?_
      refine nj_seq ?_
      refine cj_seq ?_
      refine cj_reg ?_
      refine lp rfl (p_lbw ty28 rfl (j := 1) rfl rfl) ?_
      refine r_sb (vs := [s3.v, .int .i64 y2.1.Change, .int .i64 y2.1.Clap, .int .i64 y2.1.Break, .int .i64 y8.1]) (j := 4) ty28 rfl rfl rfl rfl rfl rfl rfl ?_
      refine lj_seq ?_
      obtain rfl := Option.some.inj hm
      exact cj_rt (s3, xg4) [2, 2, 0] Tryz.results4 (.agg (k := 4) ty28 rfl rfl rfl .nil) rfl rfl
    · have hm := ifB_f hb hm
      refine cj_seq ?_
      refine cj_reg ?_
      refine lp rfl (p_eql rfl rfl) ?_
      refine lp rfl (p_as rfl) ?_
      refine lj_seq ?_
      refine cj_if (b := y7.1 == 1) rfl (fun hb => ?_) (fun hb => ?_)
      · have hm := ifB_t hb hm
        refine cj_reg ?_
        refine lp rfl (p_mv rfl) ?_
        obtain ⟨y9, hy9, hm⟩ := bindS hm
        refine r_call [0] cf22 rfl rfl (ok_gleemake_Stream_Odd b0_ s0_0_ a0_0 y7.2 0 86400000 hy9) rfl rfl (.cons (.ro 4 rfl) .nil) (fun _ => rfl) rfl (fun _ => ?_)
        refine lp rfl (p_mv rfl) ?_
        obtain ⟨y10, hy10, hm⟩ := bindS hm
        refine r_call [0] cf22 rfl rfl (ok_gleemake_Stream_Odd b0_ s0_0_ a0_0 y9.2 0 86400000 hy10) rfl rfl (.cons (.ro 4 rfl) .nil) (fun _ => rfl) rfl (fun _ => ?_)
        refine lp rfl (p_mv rfl) ?_
        obtain ⟨y11, hy11, hm⟩ := bindS hm
        refine r_call [0] cf22 rfl rfl (ok_gleemake_Stream_Odd b0_ s0_0_ a0_0 y10.2 0 86400000 hy11) rfl rfl (.cons (.ro 4 rfl) .nil) (fun _ => rfl) rfl (fun _ => ?_)
        refine lp rfl (p_fab fl28_1 rfl) ?_
        refine r_sb (vs := [.int .i64 y9.1]) (j := 1) ty3 rfl rfl rfl rfl rfl rfl rfl ?_
        refine lp rfl (p_fab fl28_2 rfl) ?_
        refine r_sb (vs := [.int .i64 y10.1]) (j := 1) ty3 rfl rfl rfl rfl rfl rfl rfl ?_
        refine lp rfl (p_fab fl28_3 rfl) ?_
        refine r_sb (vs := [.int .i64 y11.1]) (j := 1) ty3 rfl rfl rfl rfl rfl rfl rfl ?_
        refine lj_nil ?_
        refine nj_blk ?_
        refine nj_seq ?_
        refine cj_seq ?_
        refine cj_reg ?_
        refine lp rfl (p_lbw ty28 rfl (j := 1) rfl rfl) ?_
        refine r_sb (vs := [s3.v, .int .i64 y9.1, .int .i64 y10.1, .int .i64 y11.1, .int .i64 y2.1.Half]) (j := 4) ty28 rfl rfl rfl rfl rfl rfl rfl ?_
        refine lj_seq ?_
        obtain rfl := Option.some.inj hm
        exact cj_rt (s3, xg4) [2, 2, 0] Tryz.results4 (.agg (k := 4) ty28 rfl rfl rfl .nil) rfl rfl
      · have hm := ifB_f hb hm
        refine cj_seq ?_
        refine cj_reg ?_
        refine lp rfl (p_fab fl28_0 rfl) ?_
        refine lp rfl (p_lbs ty26 rfl (j := 1) rfl rfl) ?_
        refine lp rfl (p_lenG hLs3 Tryz.underlying26 rfl (.row 2 rfl)) ?_
        refine lp rfl (p_gtr rfl rfl) ?_
        refine lj_seq ?_
        refine cj_if (b := decide ((y2.1.Items.length : Int) > 0)) rfl (fun hb => ?_) (fun hb => ?_)
        · have hm := ifB_t hb hm
          refine cj_seq ?_
          obtain ⟨y12, hy12, hm⟩ := bindS hm
          obtain ⟨e13, he13, hm⟩ := bindS hm
          obtain ⟨ge13, he13G⟩ := lk_getI hLs3 he13
          refine cj_anyT [0, 1, 2, 3, 4, 5, 7, 8] [] (Sat w0 (keys [.box b0_ 25 [s0_0_.v, .int .i64 a0_1]]) A [.box b5 28 [s3.v, .int .i64 y2.1.Change, .int .i64 y2.1.Clap, .int .i64 y2.1.Break, .int .i64 y2.1.Half], .row N57.R (SV.v s3) xg4, .ro (Lk N57 y2.1.Items xg4), .box b1 28 [.slice none 0 0, .int .i64 0, .int .i64 0, .int .i64 0, .int .i64 0], .ro (RdS R3 (SV.v s0_0_) a0_0)]) (Sat w0 (keys [.box b0_ 25 [s0_0_.v, .int .i64 a0_1]]) A [.box b5 28 [s3.v, .int .i64 y2.1.Change, .int .i64 y2.1.Clap, .int .i64 y2.1.Break, .int .i64 y2.1.Half], .row N57.R (SV.v s3) xg4, .ro (Lk N57 y2.1.Items xg4), .box b1 28 [.slice none 0 0, .int .i64 0, .int .i64 0, .int .i64 0, .int .i64 0], .ro (RdS R3 (SV.v s0_0_) a0_0)]) (by kernel_rfl) ?_
          refine at_take2 0 rfl (by kernel_rfl) (by kernel_rfl) (by kernel_rfl) (fun _ h => h.picks [0, 0, 0, 0, 0] rfl) rfl rfl (p_fab fl28_0 rfl) (fun _ h => h.picks [1, 1, 1, 1, 1] rfl) ?_
          refine at_take2 1 rfl (by kernel_rfl) (by kernel_rfl) (by kernel_rfl) (fun _ h => h.picks [0, 0, 0, 0, 0] rfl) rfl rfl (p_lbs ty26 rfl (j := 0) rfl rfl) (fun _ h => h.picks [1, 1, 1, 1, 1] rfl) ?_
          refine at_take2 2 rfl (by kernel_rfl) (by kernel_rfl) (by kernel_rfl) (fun _ h => h.picks [0, 0, 0, 0, 0] rfl) rfl rfl (p_mv rfl) (fun _ h => h.picks [1, 1, 1, 1, 1] rfl) ?_
          refine at_take2 3 rfl (by kernel_rfl) (by kernel_rfl) (by kernel_rfl) (fun _ h => h.picks [0, 0, 0, 0, 0] rfl) rfl rfl (p_fab fl28_0 rfl) (fun _ h => h.picks [1, 1, 1, 1, 1] rfl) ?_
          refine at_take2 4 rfl (by kernel_rfl) (by kernel_rfl) (by kernel_rfl) (fun _ h => h.picks [0, 0, 0, 0, 0] rfl) rfl rfl (p_lbs ty26 rfl (j := 0) rfl rfl) (fun _ h => h.picks [1, 1, 1, 1, 1] rfl) ?_
          refine at_take2 5 rfl (by kernel_rfl) (by kernel_rfl) (by kernel_rfl) (fun _ h => h.picks [0, 0, 0, 0, 0] rfl) rfl rfl (p_lenG hLs3 Tryz.underlying26 rfl (.row 1 rfl)) (fun _ h => h.picks [1, 1, 1, 1, 1] rfl) ?_
          refine at_each (rs := [6]) (by kernel_rfl) (by decide) ?_
          refine (.cons rfl (fun I cnI => ?_) .nil)
          · refine r_call [0] cf21 rfl rfl (ok_gleemake_Stream_Next b0_ s0_0_ a0_0 y7.2 (y2.1.Items.length : Int) hy12) rfl rfl (.cons (.ro 4 rfl) .nil) (fun _ => rfl) rfl (fun _ => ?_)
            refine lj_nil ?_
            refine cnI _ _ (sof1 rfl rfl (fun _ h => h.picks [1, 1, 1, 1, 1] rfl)) ?_
            refine at_take2 7 rfl (by kernel_rfl) (by kernel_rfl) (by kernel_rfl) (fun _ h => h.picks [0, 0, 0, 0, 0] rfl) rfl rfl (p_idx Tryz.underlying26 ty57 rfl rfl (.row 1 rfl) he13G) (fun _ h => h.picks [1, 1, 1, 1, 1] rfl) ?_
            refine at_take2 8 rfl (by kernel_rfl) (by kernel_rfl) (by kernel_rfl) (fun _ h => h.picks [0, 0, 0, 0, 0] rfl) rfl rfl (p_as rfl) (fun _ h => h.picks [1, 1, 1, 1, 1] rfl) ?_
            refine at_done (by kernel_rfl) ?_
            refine nj_seq ?_
            refine cj_pure (F := RdS N57.R (SV.v s3) xg4) (.row 2 rfl) (fun _ h => h.some_of (getI_spec he13G).2) (fun hp79 => ?_)
            refine cj_pure (F := RdS N57.R (SV.v s3) xg4) (.row 2 rfl) (fun _ h => h.pures) (fun hq80 => ?_)
            obtain ⟨y67, hy67, hm⟩ := bindS hm
            obtain ⟨y68, hy68, hm⟩ := bindS hm
            obtain ⟨y69, hy69, hm⟩ := bindS hm
            obtain ⟨y72, hy72, hm⟩ := bindS hm
            obtain ⟨q74, hq74, hm⟩ := bindS hm
            refine cj_anyT [0, 1, 2, 3, 4, 5, 6, 7, 10, 12, 13, 14, 15, 17, 22, 23, 25, 26, 28, 29] [24, 25, 26, 27, 28, 29, 30] (Sat w0 (keys [.box b0_ 25 [s0_0_.v, .int .i64 a0_1]]) A [.box b5 28 [s3.v, .int .i64 y2.1.Change, .int .i64 y2.1.Clap, .int .i64 y2.1.Break, .int .i64 y2.1.Half], .row N57.R (SV.v s3) xg4, .ro (Lk N57 y2.1.Items xg4), .box b1 28 [.slice none 0 0, .int .i64 0, .int .i64 0, .int .i64 0, .int .i64 0], .ro (RdS R3 (SV.v s0_0_) a0_0)]) (Sat w0 (keys [.box b0_ 25 [s0_0_.v, .int .i64 a0_1]]) A [.box b5 28 [s3.v, .int .i64 y2.1.Change, .int .i64 y2.1.Clap, .int .i64 y2.1.Break, .int .i64 y2.1.Half], .ro (Lk N57 y2.1.Items xg4), .box b1 28 [.slice none 0 0, .int .i64 0, .int .i64 0, .int .i64 0, .int .i64 0], .ro (RdS R3 (SV.v s0_0_) a0_0)]) (by kernel_rfl) ?_
            refine at_take2 0 rfl (by kernel_rfl) (by kernel_rfl) (by kernel_rfl) (fun _ h => h.picks [0, 1, 1, 1] rfl) rfl rfl (p_mv rfl) (fun _ h => h.picks [1, 2, 2, 2] rfl) ?_
            refine at_take2 1 rfl (by kernel_rfl) (by kernel_rfl) (by kernel_rfl) (fun _ h => h.picks [0, 1, 1, 1] rfl) rfl rfl (p_mv rfl) (fun _ h => h.picks [1, 2, 2, 2] rfl) ?_
            refine at_take2 2 rfl (by kernel_rfl) (by kernel_rfl) (by kernel_rfl) (fun _ h => h.picks [0, 1, 1, 1] rfl) rfl rfl (p_mv rfl) (fun _ h => h.picks [1, 2, 2, 2] rfl) ?_
            refine at_take2 3 rfl (by kernel_rfl) (by kernel_rfl) (by kernel_rfl) (fun _ h => h.picks [0, 1, 1, 1] rfl) rfl rfl (p_mv rfl) (fun _ h => h.picks [1, 2, 2, 2] rfl) ?_
            refine at_take2 4 rfl (by kernel_rfl) (by kernel_rfl) (by kernel_rfl) (fun _ h => h.picks [0, 1, 1, 1] rfl) rfl rfl (p_mv rfl) (fun _ h => h.picks [1, 2, 2, 2] rfl) ?_
            refine at_take2 5 rfl (by kernel_rfl) (by kernel_rfl) (by kernel_rfl) (fun _ h => h.picks [0, 1, 1, 1] rfl) rfl rfl (p_ncs rfl hp79) (fun _ h => h.picks [1, 2, 2, 2] rfl) ?_
            refine at_take2 6 rfl (by kernel_rfl) (by kernel_rfl) (by kernel_rfl) (fun _ h => h.picks [0, 1, 1, 1] rfl) rfl rfl (p_fas fl57_0 rfl hp79) (fun _ h => h.picks [1, 2, 2, 2] rfl) ?_
            refine at_take1 7 rfl (by kernel_rfl) (by kernel_rfl) (by kernel_rfl) (by kernel_rfl) rfl rfl (p_lde (o := 0) ty9 rfl rfl (.row 1 rfl) (getI_spec he13G).2 rfl) (fun _ h => h.picks [1, 1, 1, 1, 1] rfl) ?_
            refine at_take2 10 rfl (by kernel_rfl) (by kernel_rfl) (by kernel_rfl) (fun _ h => h.picks [0, 1, 1, 1] rfl) rfl rfl (p_mv rfl) (fun _ h => h.picks [1, 2, 2, 2] rfl) ?_
            refine at_take2 12 rfl (by kernel_rfl) (by kernel_rfl) (by kernel_rfl) (fun _ h => h.picks [0, 1, 1, 1] rfl) rfl rfl (p_mv rfl) (fun _ h => h.picks [1, 2, 2, 2] rfl) ?_
            refine at_take2 13 rfl (by kernel_rfl) (by kernel_rfl) (by kernel_rfl) (fun _ h => h.picks [0, 1, 1, 1] rfl) rfl rfl (p_ncs rfl hp79) (fun _ h => h.picks [1, 2, 2, 2] rfl) ?_
            refine at_take2 14 rfl (by kernel_rfl) (by kernel_rfl) (by kernel_rfl) (fun _ h => h.picks [0, 1, 1, 1] rfl) rfl rfl (p_fas fl57_3 rfl hp79) (fun _ h => h.picks [1, 2, 2, 2] rfl) ?_
            refine at_take1 15 rfl (by kernel_rfl) (by kernel_rfl) (by kernel_rfl) (by kernel_rfl) rfl rfl (p_lde (o := 3) ty55 rfl rfl (.row 1 rfl) (getI_spec he13G).2 rfl) (fun _ h => h.picks [1, 1, 1, 1, 1] rfl) ?_
            refine at_take2 17 rfl (by kernel_rfl) (by kernel_rfl) (by kernel_rfl) (fun _ h => h.picks [0, 1, 1, 1] rfl) rfl rfl (p_mv rfl) (fun _ h => h.picks [1, 2, 2, 2] rfl) ?_
            refine at_each (rs := [8, 18]) (by kernel_rfl) (by decide) ?_
            refine (.cons rfl (fun I cnI => ?_) (.cons rfl (fun I cnI => ?_) .nil))
            · refine r_bs R9 [e13.Key, ByteArray.empty, (ByteArray.mk [97].toArray)] rfl rfl rfl (fun _ => by kernel_rfl) rfl (fun s81 => ?_)
              refine lj_nil ?_
              refine cnI _ _ (sof1 rfl rfl (fun _ h => h.picks [2, 2, 2, 2, 2] rfl)) ?_
              refine at_each (rs := [9, 18]) (by kernel_rfl) (by decide) ?_
              refine (.cons rfl (fun I cnI => ?_) (.cons rfl (fun I cnI => ?_) .nil))
              · refine r_call [1] cf5 rfl rfl (ok_gleemake_Stream_Some b0_ s0_0_ a0_0 y12.2 s81 [e13.Key, ByteArray.empty, (ByteArray.mk [97].toArray)] hy67) rfl rfl (.cons (.ro 5 rfl) (.cons (.row 0 rfl) .nil)) (fun _ => rfl) rfl (fun _ => ?_)
                refine lj_nil ?_
                refine cnI _ _ (sof1 rfl rfl (fun _ h => h.picks [2, 2, 2, 2, 2] rfl)) ?_
                refine at_each (rs := [11, 18]) (by kernel_rfl) (by decide) ?_
                refine (.cons rfl (fun I cnI => ?_) (.cons rfl (fun I cnI => ?_) .nil))
                · refine r_call [0] cf22 rfl rfl (ok_gleemake_Stream_Odd b0_ s0_0_ a0_0 y67.2 1 86400000 hy68) rfl rfl (.cons (.ro 5 rfl) .nil) (fun _ => rfl) rfl (fun _ => ?_)
                  refine lj_nil ?_
                  refine cnI _ _ (sof1 rfl rfl (fun _ h => h.picks [2, 2, 2, 2, 2] rfl)) ?_
                  refine at_each (rs := [16, 18]) (by kernel_rfl) (by decide) ?_
                  refine (.cons rfl (fun I cnI => ?_) (.cons rfl (fun I cnI => ?_) .nil))
                  · refine r_call [] cf23 rfl rfl (ok_slices_Clone_string_string ge13 e13.Parts hy69) rfl rfl (.cons (.imp (.ro 4 rfl) (fun _ h => (Lk.at_ h (getI_spec he13G).2))) .nil) (fun _ => rfl) rfl (fun s82 => ?_)
                    refine lj_nil ?_
                    refine cnI _ _ (sof1 rfl rfl (fun _ h => h.picks [3, 3, 3, 3, 3] rfl)) ?_
                    refine at_each (rs := [18]) (by kernel_rfl) (by decide) ?_
                    refine (.cons rfl (fun I cnI => ?_) .nil)
                    · refine r_bs R9 [(ByteArray.mk [122, 122].toArray), ByteArray.empty, (ByteArray.mk [97, 108, 116, 111].toArray)] rfl rfl rfl (fun _ => by kernel_rfl) rfl (fun s83 => ?_)
                      refine lj_nil ?_
                      refine cnI _ _ (sof1 rfl rfl (fun _ h => h.picks [4, 4, 4, 4, 4] rfl)) ?_
                      refine at_each (rs := [19]) (by kernel_rfl) (by decide) ?_
                      refine (.cons rfl (fun I cnI => ?_) .nil)
                      · refine r_call [2] cf5 rfl rfl (ok_gleemake_Stream_Some b0_ s0_0_ a0_0 y68.2 s83 [(ByteArray.mk [122, 122].toArray), ByteArray.empty, (ByteArray.mk [97, 108, 116, 111].toArray)] hy72) rfl rfl (.cons (.ro 7 rfl) (.cons (.row 0 rfl) .nil)) (fun _ => rfl) rfl (fun _ => ?_)
                        refine lj_nil ?_
                        refine cnI _ _ (sof1 rfl rfl (fun _ h => h.picks [4, 4, 4, 4, 4] rfl)) ?_
                        refine at_each (rs := [20]) (by kernel_rfl) (by decide) ?_
                        refine (.cons rfl (fun I cnI => ?_) .nil)
                        · refine r_bs R9 [y72.1] rfl rfl rfl (fun _ => by kernel_rfl) rfl (fun s84 => ?_)
                          refine lj_nil ?_
                          refine cnI _ _ (sof1 rfl rfl (fun _ h => h.picks [5, 5, 5, 5, 5] rfl)) ?_
                          refine at_each (rs := [21]) (by kernel_rfl) (by decide) ?_
                          refine (.cons rfl (fun I cnI => ?_) .nil)
                          · refine r_app (k := 3) Tryz.underlying55 ty9 rfl rfl rfl rfl (.row 0 rfl) hq74 rfl (fun s85 => ?_)
                            refine lj_nil ?_
                            refine cnI _ _ (sof1 rfl rfl (fun _ h => h.picks [5, 5, 5, 5, 5] rfl)) ?_
                            refine at_take2 22 rfl (by kernel_rfl) (by kernel_rfl) (by kernel_rfl) (fun _ h => h.picks [0, 1, 1, 1] rfl) rfl rfl (p_ncs rfl hp79) (fun _ h => h.picks [5, 6, 6, 6] rfl) ?_
                            refine at_take2 23 rfl (by kernel_rfl) (by kernel_rfl) (by kernel_rfl) (fun _ h => h.picks [0, 1, 1, 1] rfl) rfl rfl (p_fas fl57_0 rfl hp79) (fun _ h => h.picks [5, 6, 6, 6] rfl) ?_
                            refine at_each (rs := [24]) (by kernel_rfl) (by decide) ?_
                            refine (.cons rfl (fun I cnI => ?_) .nil)
                            · refine r_fact (F := Lk N57 (y2.1.Items.set y12.1.toNat (TItem.mk y67.1 e13.Places e13.Long e13.Parts)) (xg4.set y12.1.toNat ((TItem.mk y67.1 e13.Places e13.Long e13.Parts), ge13))) (.imp (.and (.ro 7 rfl) (.imp (.ro 7 rfl) (fun _ h => (Lk.at_ h (getI_spec he13G).2)))) (fun _ h => Lk.set h.1 h.2)) ?_
                              refine r_ste (k := 7) (o := 0) (vs := [.string y67.1]) ty9 rfl rfl rfl rfl rfl rfl rfl (getI_spec he13G).2 ((TItem.mk y67.1 e13.Places e13.Long e13.Parts), ge13) rfl rfl ?_
                              refine lj_nil ?_
                              refine cnI _ _ (sof2 rfl rfl (fun _ h => h.picks [6, 7, 7, 7] rfl)) ?_
                              refine at_take2 25 rfl (by kernel_rfl) (by kernel_rfl) (by kernel_rfl) (fun _ h => h.picks [0, 1, 1, 1] rfl) rfl rfl (p_ncs rfl hp79) (fun _ h => h.picks [6, 7, 7, 7] rfl) ?_
                              refine at_take2 26 rfl (by kernel_rfl) (by kernel_rfl) (by kernel_rfl) (fun _ h => h.picks [0, 1, 1, 1] rfl) rfl rfl (p_fas fl57_2 rfl hp79) (fun _ h => h.picks [6, 7, 7, 7] rfl) ?_
                              refine at_each (rs := [27]) (by kernel_rfl) (by decide) ?_
                              refine (.cons rfl (fun I cnI => ?_) .nil)
                              · refine r_fact (F := Lk N57 ((y2.1.Items.set y12.1.toNat (TItem.mk y67.1 e13.Places e13.Long e13.Parts)).set y12.1.toNat (TItem.mk y67.1 e13.Places y68.1 e13.Parts)) ((xg4.set y12.1.toNat ((TItem.mk y67.1 e13.Places e13.Long e13.Parts), ge13)).set y12.1.toNat ((TItem.mk y67.1 e13.Places y68.1 e13.Parts), ge13))) (.imp (.and (.ro 0 rfl) (.imp (.ro 8 rfl) (fun _ h => (Lk.at_ h (getI_spec he13G).2)))) (fun _ h => Lk.set h.1 h.2)) ?_
                                refine r_ste (k := 8) (o := 2) (vs := [.int .i64 y68.1]) ty3 rfl rfl rfl rfl rfl rfl rfl (set_he (getI_spec he13G).2) ((TItem.mk y67.1 e13.Places y68.1 e13.Parts), ge13) rfl rfl ?_
                                refine lj_nil ?_
                                refine cnI _ _ (sof2 rfl rfl (fun _ h => h.picks [7, 8, 8, 8] rfl)) ?_
                                refine at_take2 28 rfl (by kernel_rfl) (by kernel_rfl) (by kernel_rfl) (fun _ h => h.picks [0, 1, 1, 1] rfl) rfl rfl (p_ncs rfl hp79) (fun _ h => h.picks [7, 8, 8, 8] rfl) ?_
                                refine at_take2 29 rfl (by kernel_rfl) (by kernel_rfl) (by kernel_rfl) (fun _ h => h.picks [0, 1, 1, 1] rfl) rfl rfl (p_fas fl57_3 rfl hp79) (fun _ h => h.picks [7, 8, 8, 8] rfl) ?_
                                refine at_each (rs := [30]) (by kernel_rfl) (by decide) ?_
                                refine (.cons rfl (fun I cnI => ?_) .nil)
                                · refine r_fz 5 rfl ?_
                                  refine r_fact (F := Lk N57 (((y2.1.Items.set y12.1.toNat (TItem.mk y67.1 e13.Places e13.Long e13.Parts)).set y12.1.toNat (TItem.mk y67.1 e13.Places y68.1 e13.Parts)).set y12.1.toNat (TItem.mk y67.1 e13.Places y68.1 q74)) (((xg4.set y12.1.toNat ((TItem.mk y67.1 e13.Places e13.Long e13.Parts), ge13)).set y12.1.toNat ((TItem.mk y67.1 e13.Places y68.1 e13.Parts), ge13)).set y12.1.toNat ((TItem.mk y67.1 e13.Places y68.1 q74), s85))) (.imp (.and (.ro 1 rfl) (.ro 0 rfl)) (fun _ h => Lk.set h.1 h.2)) ?_
                                  refine r_ste (k := 9) (o := 3) (vs := [s85.v]) ty55 rfl rfl rfl rfl rfl rfl rfl (set_he (set_he (getI_spec he13G).2)) ((TItem.mk y67.1 e13.Places y68.1 q74), s85) rfl rfl ?_
                                  refine lj_nil ?_
                                  refine cnI _ _ (sof2 rfl rfl (fun _ h => h.picks [8, 9, 9, 9] rfl)) ?_
                                  refine at_done (by kernel_rfl) ?_
                                  refine nj_blk ?_
                                  refine nj_seq ?_
                                  refine cj_seq ?_
                                  refine cj_reg ?_
                                  refine lp rfl (p_lbw ty28 rfl (j := 8) rfl rfl) ?_
                                  refine r_sb (vs := [s3.v, .int .i64 y2.1.Change, .int .i64 y2.1.Clap, .int .i64 y2.1.Break, .int .i64 y2.1.Half]) (j := 11) ty28 rfl rfl rfl rfl rfl rfl rfl ?_
                                  refine lj_seq ?_
                                  obtain rfl := Option.some.inj hm
                                  exact cj_rt (s3, (((xg4.set y12.1.toNat ((TItem.mk y67.1 e13.Places e13.Long e13.Parts), ge13)).set y12.1.toNat ((TItem.mk y67.1 e13.Places y68.1 e13.Parts), ge13)).set y12.1.toNat ((TItem.mk y67.1 e13.Places y68.1 q74), s85))) [9, 0, 4] Tryz.results4 (.agg (k := 11) ty28 rfl rfl rfl .nil) rfl rfl
                  · refine r_bs R9 [(ByteArray.mk [122, 122].toArray), ByteArray.empty, (ByteArray.mk [97, 108, 116, 111].toArray)] rfl rfl rfl (fun _ => by kernel_rfl) rfl (fun s89 => ?_)
                    refine lj_nil ?_
                    refine cnI _ _ (sof1 rfl rfl (fun _ h => h.picks [3, 3, 3, 3, 3] rfl)) ?_
                    refine at_each (rs := [16]) (by kernel_rfl) (by decide) ?_
                    refine (.cons rfl (fun I cnI => ?_) .nil)
                    · refine r_call [] cf23 rfl rfl (ok_slices_Clone_string_string ge13 e13.Parts hy69) rfl rfl (.cons (.imp (.ro 5 rfl) (fun _ h => (Lk.at_ h (getI_spec he13G).2))) .nil) (fun _ => rfl) rfl (fun s90 => ?_)
                      refine lj_nil ?_
                      refine cnI _ _ (sof1 rfl rfl (fun _ h => h.picks [4, 4, 4, 4, 4] rfl)) ?_
                      refine at_each (rs := [19]) (by kernel_rfl) (by decide) ?_
                      refine (.cons rfl (fun I cnI => ?_) .nil)
                      · refine r_call [2] cf5 rfl rfl (ok_gleemake_Stream_Some b0_ s0_0_ a0_0 y68.2 s89 [(ByteArray.mk [122, 122].toArray), ByteArray.empty, (ByteArray.mk [97, 108, 116, 111].toArray)] hy72) rfl rfl (.cons (.ro 7 rfl) (.cons (.row 1 rfl) .nil)) (fun _ => rfl) rfl (fun _ => ?_)
                        refine lj_nil ?_
                        refine cnI _ _ (sof1 rfl rfl (fun _ h => h.picks [4, 4, 4, 4, 4] rfl)) ?_
                        refine at_each (rs := [20]) (by kernel_rfl) (by decide) ?_
                        refine (.cons rfl (fun I cnI => ?_) .nil)
                        · refine r_bs R9 [y72.1] rfl rfl rfl (fun _ => by kernel_rfl) rfl (fun s91 => ?_)
                          refine lj_nil ?_
                          refine cnI _ _ (sof1 rfl rfl (fun _ h => h.picks [5, 5, 5, 5, 5] rfl)) ?_
                          refine at_each (rs := [21]) (by kernel_rfl) (by decide) ?_
                          refine (.cons rfl (fun I cnI => ?_) .nil)
                          · refine r_app (k := 2) Tryz.underlying55 ty9 rfl rfl rfl rfl (.row 0 rfl) hq74 rfl (fun s92 => ?_)
                            refine lj_nil ?_
                            refine cnI _ _ (sof1 rfl rfl (fun _ h => h.picks [5, 5, 5, 5, 5] rfl)) ?_
                            refine at_take2 22 rfl (by kernel_rfl) (by kernel_rfl) (by kernel_rfl) (fun _ h => h.picks [0, 1, 1, 1] rfl) rfl rfl (p_ncs rfl hp79) (fun _ h => h.picks [5, 6, 6, 6] rfl) ?_
                            refine at_take2 23 rfl (by kernel_rfl) (by kernel_rfl) (by kernel_rfl) (fun _ h => h.picks [0, 1, 1, 1] rfl) rfl rfl (p_fas fl57_0 rfl hp79) (fun _ h => h.picks [5, 6, 6, 6] rfl) ?_
                            refine at_each (rs := [24]) (by kernel_rfl) (by decide) ?_
                            refine (.cons rfl (fun I cnI => ?_) .nil)
                            · refine r_fact (F := Lk N57 (y2.1.Items.set y12.1.toNat (TItem.mk y67.1 e13.Places e13.Long e13.Parts)) (xg4.set y12.1.toNat ((TItem.mk y67.1 e13.Places e13.Long e13.Parts), ge13))) (.imp (.and (.ro 7 rfl) (.imp (.ro 7 rfl) (fun _ h => (Lk.at_ h (getI_spec he13G).2)))) (fun _ h => Lk.set h.1 h.2)) ?_
                              refine r_ste (k := 7) (o := 0) (vs := [.string y67.1]) ty9 rfl rfl rfl rfl rfl rfl rfl (getI_spec he13G).2 ((TItem.mk y67.1 e13.Places e13.Long e13.Parts), ge13) rfl rfl ?_
                              refine lj_nil ?_
                              refine cnI _ _ (sof2 rfl rfl (fun _ h => h.picks [6, 7, 7, 7] rfl)) ?_
                              refine at_take2 25 rfl (by kernel_rfl) (by kernel_rfl) (by kernel_rfl) (fun _ h => h.picks [0, 1, 1, 1] rfl) rfl rfl (p_ncs rfl hp79) (fun _ h => h.picks [6, 7, 7, 7] rfl) ?_
                              refine at_take2 26 rfl (by kernel_rfl) (by kernel_rfl) (by kernel_rfl) (fun _ h => h.picks [0, 1, 1, 1] rfl) rfl rfl (p_fas fl57_2 rfl hp79) (fun _ h => h.picks [6, 7, 7, 7] rfl) ?_
                              refine at_each (rs := [27]) (by kernel_rfl) (by decide) ?_
                              refine (.cons rfl (fun I cnI => ?_) .nil)
                              · refine r_fact (F := Lk N57 ((y2.1.Items.set y12.1.toNat (TItem.mk y67.1 e13.Places e13.Long e13.Parts)).set y12.1.toNat (TItem.mk y67.1 e13.Places y68.1 e13.Parts)) ((xg4.set y12.1.toNat ((TItem.mk y67.1 e13.Places e13.Long e13.Parts), ge13)).set y12.1.toNat ((TItem.mk y67.1 e13.Places y68.1 e13.Parts), ge13))) (.imp (.and (.ro 0 rfl) (.imp (.ro 8 rfl) (fun _ h => (Lk.at_ h (getI_spec he13G).2)))) (fun _ h => Lk.set h.1 h.2)) ?_
                                refine r_ste (k := 8) (o := 2) (vs := [.int .i64 y68.1]) ty3 rfl rfl rfl rfl rfl rfl rfl (set_he (getI_spec he13G).2) ((TItem.mk y67.1 e13.Places y68.1 e13.Parts), ge13) rfl rfl ?_
                                refine lj_nil ?_
                                refine cnI _ _ (sof2 rfl rfl (fun _ h => h.picks [7, 8, 8, 8] rfl)) ?_
                                refine at_take2 28 rfl (by kernel_rfl) (by kernel_rfl) (by kernel_rfl) (fun _ h => h.picks [0, 1, 1, 1] rfl) rfl rfl (p_ncs rfl hp79) (fun _ h => h.picks [7, 8, 8, 8] rfl) ?_
                                refine at_take2 29 rfl (by kernel_rfl) (by kernel_rfl) (by kernel_rfl) (fun _ h => h.picks [0, 1, 1, 1] rfl) rfl rfl (p_fas fl57_3 rfl hp79) (fun _ h => h.picks [7, 8, 8, 8] rfl) ?_
                                refine at_each (rs := [30]) (by kernel_rfl) (by decide) ?_
                                refine (.cons rfl (fun I cnI => ?_) .nil)
                                · refine r_fz 4 rfl ?_
                                  refine r_fact (F := Lk N57 (((y2.1.Items.set y12.1.toNat (TItem.mk y67.1 e13.Places e13.Long e13.Parts)).set y12.1.toNat (TItem.mk y67.1 e13.Places y68.1 e13.Parts)).set y12.1.toNat (TItem.mk y67.1 e13.Places y68.1 q74)) (((xg4.set y12.1.toNat ((TItem.mk y67.1 e13.Places e13.Long e13.Parts), ge13)).set y12.1.toNat ((TItem.mk y67.1 e13.Places y68.1 e13.Parts), ge13)).set y12.1.toNat ((TItem.mk y67.1 e13.Places y68.1 q74), s92))) (.imp (.and (.ro 1 rfl) (.ro 0 rfl)) (fun _ h => Lk.set h.1 h.2)) ?_
                                  refine r_ste (k := 9) (o := 3) (vs := [s92.v]) ty55 rfl rfl rfl rfl rfl rfl rfl (set_he (set_he (getI_spec he13G).2)) ((TItem.mk y67.1 e13.Places y68.1 q74), s92) rfl rfl ?_
                                  refine lj_nil ?_
                                  refine cnI _ _ (sof2 rfl rfl (fun _ h => h.picks [8, 9, 9, 9] rfl)) ?_
                                  refine at_done (by kernel_rfl) ?_
                                  refine nj_blk ?_
                                  refine nj_seq ?_
                                  refine cj_seq ?_
                                  refine cj_reg ?_
                                  refine lp rfl (p_lbw ty28 rfl (j := 8) rfl rfl) ?_
                                  refine r_sb (vs := [s3.v, .int .i64 y2.1.Change, .int .i64 y2.1.Clap, .int .i64 y2.1.Break, .int .i64 y2.1.Half]) (j := 11) ty28 rfl rfl rfl rfl rfl rfl rfl ?_
                                  refine lj_seq ?_
                                  obtain rfl := Option.some.inj hm
                                  exact cj_rt (s3, (((xg4.set y12.1.toNat ((TItem.mk y67.1 e13.Places e13.Long e13.Parts), ge13)).set y12.1.toNat ((TItem.mk y67.1 e13.Places y68.1 e13.Parts), ge13)).set y12.1.toNat ((TItem.mk y67.1 e13.Places y68.1 q74), s92))) [9, 0, 4] Tryz.results4 (.agg (k := 11) ty28 rfl rfl rfl .nil) rfl rfl
                · refine r_bs R9 [(ByteArray.mk [122, 122].toArray), ByteArray.empty, (ByteArray.mk [97, 108, 116, 111].toArray)] rfl rfl rfl (fun _ => by kernel_rfl) rfl (fun s96 => ?_)
                  refine lj_nil ?_
                  refine cnI _ _ (sof1 rfl rfl (fun _ h => h.picks [3, 3, 3, 3, 3] rfl)) ?_
                  refine at_each (rs := [11]) (by kernel_rfl) (by decide) ?_
                  refine (.cons rfl (fun I cnI => ?_) .nil)
                  · refine r_call [1] cf22 rfl rfl (ok_gleemake_Stream_Odd b0_ s0_0_ a0_0 y67.2 1 86400000 hy68) rfl rfl (.cons (.ro 6 rfl) .nil) (fun _ => rfl) rfl (fun _ => ?_)
                    refine lj_nil ?_
                    refine cnI _ _ (sof1 rfl rfl (fun _ h => h.picks [3, 3, 3, 3, 3] rfl)) ?_
                    refine at_each (rs := [16]) (by kernel_rfl) (by decide) ?_
                    refine (.cons rfl (fun I cnI => ?_) .nil)
                    · refine r_call [] cf23 rfl rfl (ok_slices_Clone_string_string ge13 e13.Parts hy69) rfl rfl (.cons (.imp (.ro 5 rfl) (fun _ h => (Lk.at_ h (getI_spec he13G).2))) .nil) (fun _ => rfl) rfl (fun s97 => ?_)
                      refine lj_nil ?_
                      refine cnI _ _ (sof1 rfl rfl (fun _ h => h.picks [4, 4, 4, 4, 4] rfl)) ?_
                      refine at_each (rs := [19]) (by kernel_rfl) (by decide) ?_
                      refine (.cons rfl (fun I cnI => ?_) .nil)
                      · refine r_call [1] cf5 rfl rfl (ok_gleemake_Stream_Some b0_ s0_0_ a0_0 y68.2 s96 [(ByteArray.mk [122, 122].toArray), ByteArray.empty, (ByteArray.mk [97, 108, 116, 111].toArray)] hy72) rfl rfl (.cons (.ro 7 rfl) (.cons (.row 1 rfl) .nil)) (fun _ => rfl) rfl (fun _ => ?_)
                        refine lj_nil ?_
                        refine cnI _ _ (sof1 rfl rfl (fun _ h => h.picks [4, 4, 4, 4, 4] rfl)) ?_
                        refine at_each (rs := [20]) (by kernel_rfl) (by decide) ?_
                        refine (.cons rfl (fun I cnI => ?_) .nil)
                        · refine r_bs R9 [y72.1] rfl rfl rfl (fun _ => by kernel_rfl) rfl (fun s98 => ?_)
                          refine lj_nil ?_
                          refine cnI _ _ (sof1 rfl rfl (fun _ h => h.picks [5, 5, 5, 5, 5] rfl)) ?_
                          refine at_each (rs := [21]) (by kernel_rfl) (by decide) ?_
                          refine (.cons rfl (fun I cnI => ?_) .nil)
                          · refine r_app (k := 2) Tryz.underlying55 ty9 rfl rfl rfl rfl (.row 0 rfl) hq74 rfl (fun s99 => ?_)
                            refine lj_nil ?_
                            refine cnI _ _ (sof1 rfl rfl (fun _ h => h.picks [5, 5, 5, 5, 5] rfl)) ?_
                            refine at_take2 22 rfl (by kernel_rfl) (by kernel_rfl) (by kernel_rfl) (fun _ h => h.picks [0, 1, 1, 1] rfl) rfl rfl (p_ncs rfl hp79) (fun _ h => h.picks [5, 6, 6, 6] rfl) ?_
                            refine at_take2 23 rfl (by kernel_rfl) (by kernel_rfl) (by kernel_rfl) (fun _ h => h.picks [0, 1, 1, 1] rfl) rfl rfl (p_fas fl57_0 rfl hp79) (fun _ h => h.picks [5, 6, 6, 6] rfl) ?_
                            refine at_each (rs := [24]) (by kernel_rfl) (by decide) ?_
                            refine (.cons rfl (fun I cnI => ?_) .nil)
                            · refine r_fact (F := Lk N57 (y2.1.Items.set y12.1.toNat (TItem.mk y67.1 e13.Places e13.Long e13.Parts)) (xg4.set y12.1.toNat ((TItem.mk y67.1 e13.Places e13.Long e13.Parts), ge13))) (.imp (.and (.ro 7 rfl) (.imp (.ro 7 rfl) (fun _ h => (Lk.at_ h (getI_spec he13G).2)))) (fun _ h => Lk.set h.1 h.2)) ?_
                              refine r_ste (k := 7) (o := 0) (vs := [.string y67.1]) ty9 rfl rfl rfl rfl rfl rfl rfl (getI_spec he13G).2 ((TItem.mk y67.1 e13.Places e13.Long e13.Parts), ge13) rfl rfl ?_
                              refine lj_nil ?_
                              refine cnI _ _ (sof2 rfl rfl (fun _ h => h.picks [6, 7, 7, 7] rfl)) ?_
                              refine at_take2 25 rfl (by kernel_rfl) (by kernel_rfl) (by kernel_rfl) (fun _ h => h.picks [0, 1, 1, 1] rfl) rfl rfl (p_ncs rfl hp79) (fun _ h => h.picks [6, 7, 7, 7] rfl) ?_
                              refine at_take2 26 rfl (by kernel_rfl) (by kernel_rfl) (by kernel_rfl) (fun _ h => h.picks [0, 1, 1, 1] rfl) rfl rfl (p_fas fl57_2 rfl hp79) (fun _ h => h.picks [6, 7, 7, 7] rfl) ?_
                              refine at_each (rs := [27]) (by kernel_rfl) (by decide) ?_
                              refine (.cons rfl (fun I cnI => ?_) .nil)
                              · refine r_fact (F := Lk N57 ((y2.1.Items.set y12.1.toNat (TItem.mk y67.1 e13.Places e13.Long e13.Parts)).set y12.1.toNat (TItem.mk y67.1 e13.Places y68.1 e13.Parts)) ((xg4.set y12.1.toNat ((TItem.mk y67.1 e13.Places e13.Long e13.Parts), ge13)).set y12.1.toNat ((TItem.mk y67.1 e13.Places y68.1 e13.Parts), ge13))) (.imp (.and (.ro 0 rfl) (.imp (.ro 8 rfl) (fun _ h => (Lk.at_ h (getI_spec he13G).2)))) (fun _ h => Lk.set h.1 h.2)) ?_
                                refine r_ste (k := 8) (o := 2) (vs := [.int .i64 y68.1]) ty3 rfl rfl rfl rfl rfl rfl rfl (set_he (getI_spec he13G).2) ((TItem.mk y67.1 e13.Places y68.1 e13.Parts), ge13) rfl rfl ?_
                                refine lj_nil ?_
                                refine cnI _ _ (sof2 rfl rfl (fun _ h => h.picks [7, 8, 8, 8] rfl)) ?_
                                refine at_take2 28 rfl (by kernel_rfl) (by kernel_rfl) (by kernel_rfl) (fun _ h => h.picks [0, 1, 1, 1] rfl) rfl rfl (p_ncs rfl hp79) (fun _ h => h.picks [7, 8, 8, 8] rfl) ?_
                                refine at_take2 29 rfl (by kernel_rfl) (by kernel_rfl) (by kernel_rfl) (fun _ h => h.picks [0, 1, 1, 1] rfl) rfl rfl (p_fas fl57_3 rfl hp79) (fun _ h => h.picks [7, 8, 8, 8] rfl) ?_
                                refine at_each (rs := [30]) (by kernel_rfl) (by decide) ?_
                                refine (.cons rfl (fun I cnI => ?_) .nil)
                                · refine r_fz 4 rfl ?_
                                  refine r_fact (F := Lk N57 (((y2.1.Items.set y12.1.toNat (TItem.mk y67.1 e13.Places e13.Long e13.Parts)).set y12.1.toNat (TItem.mk y67.1 e13.Places y68.1 e13.Parts)).set y12.1.toNat (TItem.mk y67.1 e13.Places y68.1 q74)) (((xg4.set y12.1.toNat ((TItem.mk y67.1 e13.Places e13.Long e13.Parts), ge13)).set y12.1.toNat ((TItem.mk y67.1 e13.Places y68.1 e13.Parts), ge13)).set y12.1.toNat ((TItem.mk y67.1 e13.Places y68.1 q74), s99))) (.imp (.and (.ro 1 rfl) (.ro 0 rfl)) (fun _ h => Lk.set h.1 h.2)) ?_
                                  refine r_ste (k := 9) (o := 3) (vs := [s99.v]) ty55 rfl rfl rfl rfl rfl rfl rfl (set_he (set_he (getI_spec he13G).2)) ((TItem.mk y67.1 e13.Places y68.1 q74), s99) rfl rfl ?_
                                  refine lj_nil ?_
                                  refine cnI _ _ (sof2 rfl rfl (fun _ h => h.picks [8, 9, 9, 9] rfl)) ?_
                                  refine at_done (by kernel_rfl) ?_
                                  refine nj_blk ?_
                                  refine nj_seq ?_
                                  refine cj_seq ?_
                                  refine cj_reg ?_
                                  refine lp rfl (p_lbw ty28 rfl (j := 8) rfl rfl) ?_
                                  refine r_sb (vs := [s3.v, .int .i64 y2.1.Change, .int .i64 y2.1.Clap, .int .i64 y2.1.Break, .int .i64 y2.1.Half]) (j := 11) ty28 rfl rfl rfl rfl rfl rfl rfl ?_
                                  refine lj_seq ?_
                                  obtain rfl := Option.some.inj hm
                                  exact cj_rt (s3, (((xg4.set y12.1.toNat ((TItem.mk y67.1 e13.Places e13.Long e13.Parts), ge13)).set y12.1.toNat ((TItem.mk y67.1 e13.Places y68.1 e13.Parts), ge13)).set y12.1.toNat ((TItem.mk y67.1 e13.Places y68.1 q74), s99))) [9, 0, 4] Tryz.results4 (.agg (k := 11) ty28 rfl rfl rfl .nil) rfl rfl
              · refine r_bs R9 [(ByteArray.mk [122, 122].toArray), ByteArray.empty, (ByteArray.mk [97, 108, 116, 111].toArray)] rfl rfl rfl (fun _ => by kernel_rfl) rfl (fun s103 => ?_)
                refine lj_nil ?_
                refine cnI _ _ (sof1 rfl rfl (fun _ h => h.picks [3, 3, 3, 3, 3] rfl)) ?_
                refine at_each (rs := [9]) (by kernel_rfl) (by decide) ?_
                refine (.cons rfl (fun I cnI => ?_) .nil)
                · refine r_call [2] cf5 rfl rfl (ok_gleemake_Stream_Some b0_ s0_0_ a0_0 y12.2 s81 [e13.Key, ByteArray.empty, (ByteArray.mk [97].toArray)] hy67) rfl rfl (.cons (.ro 6 rfl) (.cons (.row 1 rfl) .nil)) (fun _ => rfl) rfl (fun _ => ?_)
                  refine lj_nil ?_
                  refine cnI _ _ (sof1 rfl rfl (fun _ h => h.picks [3, 3, 3, 3, 3] rfl)) ?_
                  refine at_each (rs := [11]) (by kernel_rfl) (by decide) ?_
                  refine (.cons rfl (fun I cnI => ?_) .nil)
                  · refine r_call [0] cf22 rfl rfl (ok_gleemake_Stream_Odd b0_ s0_0_ a0_0 y67.2 1 86400000 hy68) rfl rfl (.cons (.ro 6 rfl) .nil) (fun _ => rfl) rfl (fun _ => ?_)
                    refine lj_nil ?_
                    refine cnI _ _ (sof1 rfl rfl (fun _ h => h.picks [3, 3, 3, 3, 3] rfl)) ?_
                    refine at_each (rs := [16]) (by kernel_rfl) (by decide) ?_
                    refine (.cons rfl (fun I cnI => ?_) .nil)
                    · refine r_call [] cf23 rfl rfl (ok_slices_Clone_string_string ge13 e13.Parts hy69) rfl rfl (.cons (.imp (.ro 5 rfl) (fun _ h => (Lk.at_ h (getI_spec he13G).2))) .nil) (fun _ => rfl) rfl (fun s104 => ?_)
                      refine lj_nil ?_
                      refine cnI _ _ (sof1 rfl rfl (fun _ h => h.picks [4, 4, 4, 4, 4] rfl)) ?_
                      refine at_each (rs := [19]) (by kernel_rfl) (by decide) ?_
                      refine (.cons rfl (fun I cnI => ?_) .nil)
                      · refine r_call [1] cf5 rfl rfl (ok_gleemake_Stream_Some b0_ s0_0_ a0_0 y68.2 s103 [(ByteArray.mk [122, 122].toArray), ByteArray.empty, (ByteArray.mk [97, 108, 116, 111].toArray)] hy72) rfl rfl (.cons (.ro 7 rfl) (.cons (.row 1 rfl) .nil)) (fun _ => rfl) rfl (fun _ => ?_)
                        refine lj_nil ?_
                        refine cnI _ _ (sof1 rfl rfl (fun _ h => h.picks [4, 4, 4, 4, 4] rfl)) ?_
                        refine at_each (rs := [20]) (by kernel_rfl) (by decide) ?_
                        refine (.cons rfl (fun I cnI => ?_) .nil)
                        · refine r_bs R9 [y72.1] rfl rfl rfl (fun _ => by kernel_rfl) rfl (fun s105 => ?_)
                          refine lj_nil ?_
                          refine cnI _ _ (sof1 rfl rfl (fun _ h => h.picks [5, 5, 5, 5, 5] rfl)) ?_
                          refine at_each (rs := [21]) (by kernel_rfl) (by decide) ?_
                          refine (.cons rfl (fun I cnI => ?_) .nil)
                          · refine r_app (k := 2) Tryz.underlying55 ty9 rfl rfl rfl rfl (.row 0 rfl) hq74 rfl (fun s106 => ?_)
                            refine lj_nil ?_
                            refine cnI _ _ (sof1 rfl rfl (fun _ h => h.picks [5, 5, 5, 5, 5] rfl)) ?_
                            refine at_take2 22 rfl (by kernel_rfl) (by kernel_rfl) (by kernel_rfl) (fun _ h => h.picks [0, 1, 1, 1] rfl) rfl rfl (p_ncs rfl hp79) (fun _ h => h.picks [5, 6, 6, 6] rfl) ?_
                            refine at_take2 23 rfl (by kernel_rfl) (by kernel_rfl) (by kernel_rfl) (fun _ h => h.picks [0, 1, 1, 1] rfl) rfl rfl (p_fas fl57_0 rfl hp79) (fun _ h => h.picks [5, 6, 6, 6] rfl) ?_
                            refine at_each (rs := [24]) (by kernel_rfl) (by decide) ?_
                            refine (.cons rfl (fun I cnI => ?_) .nil)
                            · refine r_fact (F := Lk N57 (y2.1.Items.set y12.1.toNat (TItem.mk y67.1 e13.Places e13.Long e13.Parts)) (xg4.set y12.1.toNat ((TItem.mk y67.1 e13.Places e13.Long e13.Parts), ge13))) (.imp (.and (.ro 7 rfl) (.imp (.ro 7 rfl) (fun _ h => (Lk.at_ h (getI_spec he13G).2)))) (fun _ h => Lk.set h.1 h.2)) ?_
                              refine r_ste (k := 7) (o := 0) (vs := [.string y67.1]) ty9 rfl rfl rfl rfl rfl rfl rfl (getI_spec he13G).2 ((TItem.mk y67.1 e13.Places e13.Long e13.Parts), ge13) rfl rfl ?_
                              refine lj_nil ?_
                              refine cnI _ _ (sof2 rfl rfl (fun _ h => h.picks [6, 7, 7, 7] rfl)) ?_
                              refine at_take2 25 rfl (by kernel_rfl) (by kernel_rfl) (by kernel_rfl) (fun _ h => h.picks [0, 1, 1, 1] rfl) rfl rfl (p_ncs rfl hp79) (fun _ h => h.picks [6, 7, 7, 7] rfl) ?_
                              refine at_take2 26 rfl (by kernel_rfl) (by kernel_rfl) (by kernel_rfl) (fun _ h => h.picks [0, 1, 1, 1] rfl) rfl rfl (p_fas fl57_2 rfl hp79) (fun _ h => h.picks [6, 7, 7, 7] rfl) ?_
                              refine at_each (rs := [27]) (by kernel_rfl) (by decide) ?_
                              refine (.cons rfl (fun I cnI => ?_) .nil)
                              · refine r_fact (F := Lk N57 ((y2.1.Items.set y12.1.toNat (TItem.mk y67.1 e13.Places e13.Long e13.Parts)).set y12.1.toNat (TItem.mk y67.1 e13.Places y68.1 e13.Parts)) ((xg4.set y12.1.toNat ((TItem.mk y67.1 e13.Places e13.Long e13.Parts), ge13)).set y12.1.toNat ((TItem.mk y67.1 e13.Places y68.1 e13.Parts), ge13))) (.imp (.and (.ro 0 rfl) (.imp (.ro 8 rfl) (fun _ h => (Lk.at_ h (getI_spec he13G).2)))) (fun _ h => Lk.set h.1 h.2)) ?_
                                refine r_ste (k := 8) (o := 2) (vs := [.int .i64 y68.1]) ty3 rfl rfl rfl rfl rfl rfl rfl (set_he (getI_spec he13G).2) ((TItem.mk y67.1 e13.Places y68.1 e13.Parts), ge13) rfl rfl ?_
                                refine lj_nil ?_
                                refine cnI _ _ (sof2 rfl rfl (fun _ h => h.picks [7, 8, 8, 8] rfl)) ?_
                                refine at_take2 28 rfl (by kernel_rfl) (by kernel_rfl) (by kernel_rfl) (fun _ h => h.picks [0, 1, 1, 1] rfl) rfl rfl (p_ncs rfl hp79) (fun _ h => h.picks [7, 8, 8, 8] rfl) ?_
                                refine at_take2 29 rfl (by kernel_rfl) (by kernel_rfl) (by kernel_rfl) (fun _ h => h.picks [0, 1, 1, 1] rfl) rfl rfl (p_fas fl57_3 rfl hp79) (fun _ h => h.picks [7, 8, 8, 8] rfl) ?_
                                refine at_each (rs := [30]) (by kernel_rfl) (by decide) ?_
                                refine (.cons rfl (fun I cnI => ?_) .nil)
                                · refine r_fz 4 rfl ?_
                                  refine r_fact (F := Lk N57 (((y2.1.Items.set y12.1.toNat (TItem.mk y67.1 e13.Places e13.Long e13.Parts)).set y12.1.toNat (TItem.mk y67.1 e13.Places y68.1 e13.Parts)).set y12.1.toNat (TItem.mk y67.1 e13.Places y68.1 q74)) (((xg4.set y12.1.toNat ((TItem.mk y67.1 e13.Places e13.Long e13.Parts), ge13)).set y12.1.toNat ((TItem.mk y67.1 e13.Places y68.1 e13.Parts), ge13)).set y12.1.toNat ((TItem.mk y67.1 e13.Places y68.1 q74), s106))) (.imp (.and (.ro 1 rfl) (.ro 0 rfl)) (fun _ h => Lk.set h.1 h.2)) ?_
                                  refine r_ste (k := 9) (o := 3) (vs := [s106.v]) ty55 rfl rfl rfl rfl rfl rfl rfl (set_he (set_he (getI_spec he13G).2)) ((TItem.mk y67.1 e13.Places y68.1 q74), s106) rfl rfl ?_
                                  refine lj_nil ?_
                                  refine cnI _ _ (sof2 rfl rfl (fun _ h => h.picks [8, 9, 9, 9] rfl)) ?_
                                  refine at_done (by kernel_rfl) ?_
                                  refine nj_blk ?_
                                  refine nj_seq ?_
                                  refine cj_seq ?_
                                  refine cj_reg ?_
                                  refine lp rfl (p_lbw ty28 rfl (j := 8) rfl rfl) ?_
                                  refine r_sb (vs := [s3.v, .int .i64 y2.1.Change, .int .i64 y2.1.Clap, .int .i64 y2.1.Break, .int .i64 y2.1.Half]) (j := 11) ty28 rfl rfl rfl rfl rfl rfl rfl ?_
                                  refine lj_seq ?_
                                  obtain rfl := Option.some.inj hm
                                  exact cj_rt (s3, (((xg4.set y12.1.toNat ((TItem.mk y67.1 e13.Places e13.Long e13.Parts), ge13)).set y12.1.toNat ((TItem.mk y67.1 e13.Places y68.1 e13.Parts), ge13)).set y12.1.toNat ((TItem.mk y67.1 e13.Places y68.1 q74), s106))) [9, 0, 4] Tryz.results4 (.agg (k := 11) ty28 rfl rfl rfl .nil) rfl rfl
            · refine r_bs R9 [(ByteArray.mk [122, 122].toArray), ByteArray.empty, (ByteArray.mk [97, 108, 116, 111].toArray)] rfl rfl rfl (fun _ => by kernel_rfl) rfl (fun s110 => ?_)
              refine lj_nil ?_
              refine cnI _ _ (sof1 rfl rfl (fun _ h => h.picks [2, 2, 2, 2, 2] rfl)) ?_
              refine at_each (rs := [8]) (by kernel_rfl) (by decide) ?_
              refine (.cons rfl (fun I cnI => ?_) .nil)
              · refine r_bs R9 [e13.Key, ByteArray.empty, (ByteArray.mk [97].toArray)] rfl rfl rfl (fun _ => by kernel_rfl) rfl (fun s111 => ?_)
                refine lj_nil ?_
                refine cnI _ _ (sof1 rfl rfl (fun _ h => h.picks [3, 3, 3, 3, 3] rfl)) ?_
                refine at_each (rs := [9]) (by kernel_rfl) (by decide) ?_
                refine (.cons rfl (fun I cnI => ?_) .nil)
                · refine r_call [2] cf5 rfl rfl (ok_gleemake_Stream_Some b0_ s0_0_ a0_0 y12.2 s111 [e13.Key, ByteArray.empty, (ByteArray.mk [97].toArray)] hy67) rfl rfl (.cons (.ro 6 rfl) (.cons (.row 0 rfl) .nil)) (fun _ => rfl) rfl (fun _ => ?_)
                  refine lj_nil ?_
                  refine cnI _ _ (sof1 rfl rfl (fun _ h => h.picks [3, 3, 3, 3, 3] rfl)) ?_
                  refine at_each (rs := [11]) (by kernel_rfl) (by decide) ?_
                  refine (.cons rfl (fun I cnI => ?_) .nil)
                  · refine r_call [0] cf22 rfl rfl (ok_gleemake_Stream_Odd b0_ s0_0_ a0_0 y67.2 1 86400000 hy68) rfl rfl (.cons (.ro 6 rfl) .nil) (fun _ => rfl) rfl (fun _ => ?_)
                    refine lj_nil ?_
                    refine cnI _ _ (sof1 rfl rfl (fun _ h => h.picks [3, 3, 3, 3, 3] rfl)) ?_
                    refine at_each (rs := [16]) (by kernel_rfl) (by decide) ?_
                    refine (.cons rfl (fun I cnI => ?_) .nil)
                    · refine r_call [] cf23 rfl rfl (ok_slices_Clone_string_string ge13 e13.Parts hy69) rfl rfl (.cons (.imp (.ro 5 rfl) (fun _ h => (Lk.at_ h (getI_spec he13G).2))) .nil) (fun _ => rfl) rfl (fun s112 => ?_)
                      refine lj_nil ?_
                      refine cnI _ _ (sof1 rfl rfl (fun _ h => h.picks [4, 4, 4, 4, 4] rfl)) ?_
                      refine at_each (rs := [19]) (by kernel_rfl) (by decide) ?_
                      refine (.cons rfl (fun I cnI => ?_) .nil)
                      · refine r_call [1] cf5 rfl rfl (ok_gleemake_Stream_Some b0_ s0_0_ a0_0 y68.2 s110 [(ByteArray.mk [122, 122].toArray), ByteArray.empty, (ByteArray.mk [97, 108, 116, 111].toArray)] hy72) rfl rfl (.cons (.ro 7 rfl) (.cons (.row 2 rfl) .nil)) (fun _ => rfl) rfl (fun _ => ?_)
                        refine lj_nil ?_
                        refine cnI _ _ (sof1 rfl rfl (fun _ h => h.picks [4, 4, 4, 4, 4] rfl)) ?_
                        refine at_each (rs := [20]) (by kernel_rfl) (by decide) ?_
                        refine (.cons rfl (fun I cnI => ?_) .nil)
                        · refine r_bs R9 [y72.1] rfl rfl rfl (fun _ => by kernel_rfl) rfl (fun s113 => ?_)
                          refine lj_nil ?_
                          refine cnI _ _ (sof1 rfl rfl (fun _ h => h.picks [5, 5, 5, 5, 5] rfl)) ?_
                          refine at_each (rs := [21]) (by kernel_rfl) (by decide) ?_
                          refine (.cons rfl (fun I cnI => ?_) .nil)
                          · refine r_app (k := 2) Tryz.underlying55 ty9 rfl rfl rfl rfl (.row 0 rfl) hq74 rfl (fun s114 => ?_)
                            refine lj_nil ?_
                            refine cnI _ _ (sof1 rfl rfl (fun _ h => h.picks [5, 5, 5, 5, 5] rfl)) ?_
                            refine at_take2 22 rfl (by kernel_rfl) (by kernel_rfl) (by kernel_rfl) (fun _ h => h.picks [0, 1, 1, 1] rfl) rfl rfl (p_ncs rfl hp79) (fun _ h => h.picks [5, 6, 6, 6] rfl) ?_
                            refine at_take2 23 rfl (by kernel_rfl) (by kernel_rfl) (by kernel_rfl) (fun _ h => h.picks [0, 1, 1, 1] rfl) rfl rfl (p_fas fl57_0 rfl hp79) (fun _ h => h.picks [5, 6, 6, 6] rfl) ?_
                            refine at_each (rs := [24]) (by kernel_rfl) (by decide) ?_
                            refine (.cons rfl (fun I cnI => ?_) .nil)
                            · refine r_fact (F := Lk N57 (y2.1.Items.set y12.1.toNat (TItem.mk y67.1 e13.Places e13.Long e13.Parts)) (xg4.set y12.1.toNat ((TItem.mk y67.1 e13.Places e13.Long e13.Parts), ge13))) (.imp (.and (.ro 7 rfl) (.imp (.ro 7 rfl) (fun _ h => (Lk.at_ h (getI_spec he13G).2)))) (fun _ h => Lk.set h.1 h.2)) ?_
                              refine r_ste (k := 7) (o := 0) (vs := [.string y67.1]) ty9 rfl rfl rfl rfl rfl rfl rfl (getI_spec he13G).2 ((TItem.mk y67.1 e13.Places e13.Long e13.Parts), ge13) rfl rfl ?_
                              refine lj_nil ?_
                              refine cnI _ _ (sof2 rfl rfl (fun _ h => h.picks [6, 7, 7, 7] rfl)) ?_
                              refine at_take2 25 rfl (by kernel_rfl) (by kernel_rfl) (by kernel_rfl) (fun _ h => h.picks [0, 1, 1, 1] rfl) rfl rfl (p_ncs rfl hp79) (fun _ h => h.picks [6, 7, 7, 7] rfl) ?_
                              refine at_take2 26 rfl (by kernel_rfl) (by kernel_rfl) (by kernel_rfl) (fun _ h => h.picks [0, 1, 1, 1] rfl) rfl rfl (p_fas fl57_2 rfl hp79) (fun _ h => h.picks [6, 7, 7, 7] rfl) ?_
                              refine at_each (rs := [27]) (by kernel_rfl) (by decide) ?_
                              refine (.cons rfl (fun I cnI => ?_) .nil)
                              · refine r_fact (F := Lk N57 ((y2.1.Items.set y12.1.toNat (TItem.mk y67.1 e13.Places e13.Long e13.Parts)).set y12.1.toNat (TItem.mk y67.1 e13.Places y68.1 e13.Parts)) ((xg4.set y12.1.toNat ((TItem.mk y67.1 e13.Places e13.Long e13.Parts), ge13)).set y12.1.toNat ((TItem.mk y67.1 e13.Places y68.1 e13.Parts), ge13))) (.imp (.and (.ro 0 rfl) (.imp (.ro 8 rfl) (fun _ h => (Lk.at_ h (getI_spec he13G).2)))) (fun _ h => Lk.set h.1 h.2)) ?_
                                refine r_ste (k := 8) (o := 2) (vs := [.int .i64 y68.1]) ty3 rfl rfl rfl rfl rfl rfl rfl (set_he (getI_spec he13G).2) ((TItem.mk y67.1 e13.Places y68.1 e13.Parts), ge13) rfl rfl ?_
                                refine lj_nil ?_
                                refine cnI _ _ (sof2 rfl rfl (fun _ h => h.picks [7, 8, 8, 8] rfl)) ?_
                                refine at_take2 28 rfl (by kernel_rfl) (by kernel_rfl) (by kernel_rfl) (fun _ h => h.picks [0, 1, 1, 1] rfl) rfl rfl (p_ncs rfl hp79) (fun _ h => h.picks [7, 8, 8, 8] rfl) ?_
                                refine at_take2 29 rfl (by kernel_rfl) (by kernel_rfl) (by kernel_rfl) (fun _ h => h.picks [0, 1, 1, 1] rfl) rfl rfl (p_fas fl57_3 rfl hp79) (fun _ h => h.picks [7, 8, 8, 8] rfl) ?_
                                refine at_each (rs := [30]) (by kernel_rfl) (by decide) ?_
                                refine (.cons rfl (fun I cnI => ?_) .nil)
                                · refine r_fz 4 rfl ?_
                                  refine r_fact (F := Lk N57 (((y2.1.Items.set y12.1.toNat (TItem.mk y67.1 e13.Places e13.Long e13.Parts)).set y12.1.toNat (TItem.mk y67.1 e13.Places y68.1 e13.Parts)).set y12.1.toNat (TItem.mk y67.1 e13.Places y68.1 q74)) (((xg4.set y12.1.toNat ((TItem.mk y67.1 e13.Places e13.Long e13.Parts), ge13)).set y12.1.toNat ((TItem.mk y67.1 e13.Places y68.1 e13.Parts), ge13)).set y12.1.toNat ((TItem.mk y67.1 e13.Places y68.1 q74), s114))) (.imp (.and (.ro 1 rfl) (.ro 0 rfl)) (fun _ h => Lk.set h.1 h.2)) ?_
                                  refine r_ste (k := 9) (o := 3) (vs := [s114.v]) ty55 rfl rfl rfl rfl rfl rfl rfl (set_he (set_he (getI_spec he13G).2)) ((TItem.mk y67.1 e13.Places y68.1 q74), s114) rfl rfl ?_
                                  refine lj_nil ?_
                                  refine cnI _ _ (sof2 rfl rfl (fun _ h => h.picks [8, 9, 9, 9] rfl)) ?_
                                  refine at_done (by kernel_rfl) ?_
                                  refine nj_blk ?_
                                  refine nj_seq ?_
                                  refine cj_seq ?_
                                  refine cj_reg ?_
                                  refine lp rfl (p_lbw ty28 rfl (j := 8) rfl rfl) ?_
                                  refine r_sb (vs := [s3.v, .int .i64 y2.1.Change, .int .i64 y2.1.Clap, .int .i64 y2.1.Break, .int .i64 y2.1.Half]) (j := 11) ty28 rfl rfl rfl rfl rfl rfl rfl ?_
                                  refine lj_seq ?_
                                  obtain rfl := Option.some.inj hm
                                  exact cj_rt (s3, (((xg4.set y12.1.toNat ((TItem.mk y67.1 e13.Places e13.Long e13.Parts), ge13)).set y12.1.toNat ((TItem.mk y67.1 e13.Places y68.1 e13.Parts), ge13)).set y12.1.toNat ((TItem.mk y67.1 e13.Places y68.1 q74), s114))) [9, 0, 4] Tryz.results4 (.agg (k := 11) ty28 rfl rfl rfl .nil) rfl rfl
        · have hm := ifB_f hb hm
          refine cj_skip ?_
          refine nj_blk ?_
          refine nj_seq ?_
          refine cj_seq ?_
          refine cj_reg ?_
          refine lp rfl (p_lbw ty28 rfl (j := 1) rfl rfl) ?_
          refine r_sb (vs := [s3.v, .int .i64 y2.1.Change, .int .i64 y2.1.Clap, .int .i64 y2.1.Break, .int .i64 y2.1.Half]) (j := 4) ty28 rfl rfl rfl rfl rfl rfl rfl ?_
          refine lj_seq ?_
          obtain rfl := Option.some.inj hm
          exact cj_rt (s3, xg4) [2, 2, 0] Tryz.results4 (.agg (k := 4) ty28 rfl rfl rfl .nil) rfl rfl
  · have hm := ifB_f hb hm
    refine cj_skip ?_
    refine nj_seq ?_
    refine cj_seq ?_
    refine cj_reg ?_
    refine lp rfl (p_lbw ty28 rfl (j := 1) rfl rfl) ?_
    refine r_sb (vs := [s3.v, .int .i64 y2.1.Change, .int .i64 y2.1.Clap, .int .i64 y2.1.Break, .int .i64 y2.1.Half]) (j := 4) ty28 rfl rfl rfl rfl rfl rfl rfl ?_
    refine lj_seq ?_
    obtain rfl := Option.some.inj hm
    exact cj_rt (s3, xg4) [2, 2, 0] Tryz.results4 (.agg (k := 4) ty28 rfl rfl rfl .nil) rfl rfl
theorem ok_kit_IsKey (a0 : ByteArray) {r : Bool} (hm : m_kit_IsKey a0 = some r) :
    Ctr Tryz.prog 31 [.string a0].toArray ([] : List Ent) [] (X := Unit) (fun _ => .bool r) (fun _ => []) := by
  unfold m_kit_IsKey at hm
  refine ctr_mk (vs := [(0, .string a0)]) Tryz.func31 rfl Tryz.ntmps31 rfl ⟨rfl, trivial⟩ (fun w0 A => ?_)
  refine cj_seq ?_
  refine cj_reg ?_
  refine lp rfl (p_as rfl) ?_
  refine lj_seq ?_
  refine cj_seq ?_
  refine cj_reg ?_
  refine lp rfl (p_mv rfl) ?_
  refine lp rfl (p_nes rfl rfl) ?_
  refine lp rfl (p_mv rfl) ?_
  refine lcase (i := 5) (!(a0.toList == ByteArray.empty.toList)) rfl (fun hb => ?_) (fun hb => ?_)
  · have hm := ifB_t hb hm
    refine lg true rfl rfl rfl ?_
    refine lp rfl (p_mv rfl) ?_
    refine lg true rfl rfl rfl ?_
    refine lp rfl (p_lens Tryz.underlying9 rfl) ?_
    refine lg true rfl rfl rfl ?_
    refine lp rfl (p_leq rfl rfl) ?_
    refine lp rfl (p_pkt rfl rfl) ?_
    refine lp rfl (p_mv rfl) ?_
    refine lcase (i := 10) (decide ((a0.size : Int) ≤ 40)) rfl (fun hb => ?_) (fun hb => ?_)
    · have hm := ifB_t hb hm
      refine lg true rfl rfl rfl ?_
      refine lp rfl (p_mv rfl) ?_
      refine lg true rfl rfl rfl ?_
      obtain ⟨c1, hc1, hm⟩ := bindS hm
      refine lp rfl (p_stri Tryz.underlying9 rfl rfl hc1) ?_
      refine lg true rfl rfl rfl ?_
      obtain ⟨y2, hy2, hm⟩ := bindS hm
      refine r_call [] cf53 rfl rfl (ok_strings_IndexByte (ByteArray.mk [97, 98, 99, 100, 101, 102, 103, 104, 105, 106, 107, 108, 109, 110, 111, 112, 113, 114, 115, 116, 117, 118, 119, 120, 121, 122].toArray) c1 hy2) rfl rfl .nil (fun _ => rfl) rfl (fun _ => ?_)
      refine lg true rfl rfl rfl ?_
      refine lp rfl (p_geq rfl rfl) ?_
      refine lp rfl (p_pkt rfl rfl) ?_
      refine lp rfl (p_mv rfl) ?_
      refine lcase (i := 16) (decide (y2 ≥ 0)) rfl (fun hb => ?_) (fun hb => ?_)
      · have hm := ifB_t hb hm
        refine lg true rfl rfl rfl ?_
        refine lp rfl (p_mv rfl) ?_
        refine lg true rfl rfl rfl ?_
        obtain ⟨y3, hy3, hm⟩ := bindS hm
        refine r_call [] cf54 rfl rfl (ok_strings_Trim a0 (ByteArray.mk [97, 98, 99, 100, 101, 102, 103, 104, 105, 106, 107, 108, 109, 110, 111, 112, 113, 114, 115, 116, 117, 118, 119, 120, 121, 122, 48, 49, 50, 51, 52, 53, 54, 55, 56, 57, 45, 95].toArray) hy3) rfl rfl .nil (fun _ => rfl) rfl (fun _ => ?_)
        refine lg true rfl rfl rfl ?_
        refine lp rfl (p_eqs rfl rfl) ?_
        refine lp rfl (p_pkt rfl rfl) ?_
        refine lp rfl (p_as rfl) ?_
        refine lj_seq ?_
        obtain rfl := Option.some.inj hm
        exact cj_rt () [] Tryz.results31 (.tmp rfl .nil) rfl rfl
      · have hm := ifB_f hb hm
        refine ls true rfl rfl rfl rfl ?_
        refine ls true rfl rfl rfl rfl ?_
        refine ls true rfl rfl rfl rfl ?_
        refine lp rfl (p_pkf rfl rfl) ?_
        refine lp rfl (p_as rfl) ?_
        refine lj_seq ?_
        obtain rfl := Option.some.inj hm
        exact cj_rt () [] Tryz.results31 (.tmp rfl .nil) rfl rfl
    · have hm := ifB_f hb hm
      refine ls true rfl rfl rfl rfl ?_
      refine ls true rfl rfl rfl rfl ?_
      refine ls true rfl rfl rfl rfl ?_
      refine ls true rfl rfl rfl rfl ?_
      refine lp rfl (p_pkf rfl rfl) ?_
      refine lp rfl (p_mv rfl) ?_
      refine ls true rfl rfl rfl rfl ?_
      refine ls true rfl rfl rfl rfl ?_
      refine ls true rfl rfl rfl rfl ?_
      refine lp rfl (p_pkf rfl rfl) ?_
      refine lp rfl (p_as rfl) ?_
      refine lj_seq ?_
      obtain rfl := Option.some.inj hm
      exact cj_rt () [] Tryz.results31 (.tmp rfl .nil) rfl rfl
  · have hm := ifB_f hb hm
    refine ls true rfl rfl rfl rfl ?_
    refine ls true rfl rfl rfl rfl ?_
    refine ls true rfl rfl rfl rfl ?_
    refine lp rfl (p_pkf rfl rfl) ?_
    refine lp rfl (p_mv rfl) ?_
    refine ls true rfl rfl rfl rfl ?_
    refine ls true rfl rfl rfl rfl ?_
    refine ls true rfl rfl rfl rfl ?_
    refine ls true rfl rfl rfl rfl ?_
    refine lp rfl (p_pkf rfl rfl) ?_
    refine lp rfl (p_mv rfl) ?_
    refine ls true rfl rfl rfl rfl ?_
    refine ls true rfl rfl rfl rfl ?_
    refine ls true rfl rfl rfl rfl ?_
    refine lp rfl (p_pkf rfl rfl) ?_
    refine lp rfl (p_as rfl) ?_
    refine lj_seq ?_
    obtain rfl := Option.some.inj hm
    exact cj_rt () [] Tryz.results31 (.tmp rfl .nil) rfl rfl
theorem ok_concert_CheckItems_1 (a0 : TItem) (s0_3_ : SV) (b1_ : Nat) (a1_0 : ByteArray) (a1_1 : ByteArray) (a1_2 : Int) (s1_3_ : SV) (a1_3 : (List ByteArray)) {r : Bool} (hm : m_concert_CheckItems_1 a0 a1_0 a1_1 a1_2 a1_3 = some r) :
    Ctr Tryz.prog 67 [.agg [.string a0.Key, .string a0.Places, .int .i64 a0.Long, s0_3_.v].toArray, .pointer (some ⟨b1_, 0, none⟩)].toArray ([] : List Ent) [RdS R9 (SV.v s0_3_) a0.Parts, BoxS b1_ 57 [.string a1_0, .string a1_1, .int .i64 a1_2, s1_3_.v], RdS R9 (SV.v s1_3_) a1_3] (X := Unit) (fun _ => .bool r) (fun _ => []) := by
  unfold m_concert_CheckItems_1 at hm
  refine ctr_mk (vs := [(0, .agg [.string a0.Key, .string a0.Places, .int .i64 a0.Long, s0_3_.v].toArray), (1, .pointer (some ⟨b1_, 0, none⟩))]) Tryz.func67 rfl Tryz.ntmps67 rfl ⟨rfl, rfl, trivial⟩ (fun w0 A => ?_)
  refine cj_seq ?_
  refine cj_reg ?_
  refine r_bx (cs := [.string a0.Key, .string a0.Places, .int .i64 a0.Long, s0_3_.v]) rfl rfl rfl (fun b1 => ?_)
  refine lp rfl (p_as rfl) ?_
  refine lj_seq ?_
  refine cj_seq ?_
  refine cj_reg ?_
  refine lp rfl (p_fab fl57_0 rfl) ?_
  refine lp rfl (p_lbs ty9 rfl (j := 0) rfl rfl) ?_
  refine lp rfl (p_fab fl57_0 rfl) ?_
  refine lp rfl (p_rbs ty9 rfl (.ro 2 rfl) rfl) ?_
  refine lp rfl (p_eqs rfl rfl) ?_
  refine lp rfl (p_as rfl) ?_
  refine lj_seq ?_
  obtain rfl := Option.some.inj hm
  exact cj_rt () [] Tryz.results67 (.tmp rfl .nil) rfl rfl
theorem ok_slices_IndexFunc_api_Item_api_Item__concert_CheckItems_1 (s0_ : SV) (xg0_ : List (TItem × SV)) (a0 : (List TItem)) (b1_c0_ : Nat) (a1_c0_0 : ByteArray) (a1_c0_1 : ByteArray) (a1_c0_2 : Int) (s1_c0_3_ : SV) (a1_c0_3 : (List ByteArray)) {r : Int} (hm : m_slices_IndexFunc_api_Item_api_Item__concert_CheckItems_1 a0 a1_c0_0 a1_c0_1 a1_c0_2 a1_c0_3 = some r) :
    Ctr Tryz.prog 92 [s0_.v, .func (.func 67) #[] [.pointer (some ⟨b1_c0_, 0, none⟩)].toArray].toArray ([] : List Ent) [Lk N57 a0 xg0_, RdS N57.R (SV.v s0_) xg0_, BoxS b1_c0_ 57 [.string a1_c0_0, .string a1_c0_1, .int .i64 a1_c0_2, s1_c0_3_.v], RdS R9 (SV.v s1_c0_3_) a1_c0_3] (X := Unit) (fun _ => .int .i64 r) (fun _ => []) := by
  unfold m_slices_IndexFunc_api_Item_api_Item__concert_CheckItems_1 at hm
  refine ctr_mk (vs := [(0, s0_.v), (1, .func (.func 67) #[] [.pointer (some ⟨b1_c0_, 0, none⟩)].toArray)]) Tryz.func92 rfl Tryz.ntmps92 rfl ⟨rfl, rfl, trivial⟩ (fun w0 A => ?_)
  refine cj_pure (F := Lk N57 a0 xg0_) (.ro 0 rfl) (fun _ h => h.1) (fun hL0_ => ?_)
  refine cj_seq ?_
  refine cj_reg ?_
  refine lp rfl (p_as rfl) ?_
  refine lj_seq ?_
  refine cj_seq ?_
  refine cj_seq ?_
  refine cj_reg ?_
  refine lp rfl (p_mv rfl) ?_
  refine lp rfl (p_lenG hL0_ Tryz.underlying26 rfl (.ro 1 rfl)) ?_
  refine lp rfl (p_mv rfl) ?_
  refine lj_seq ?_
  obtain ⟨f7, hf7, hm⟩ := bindS hm
  refine cj_range (γ := Unit) (m := (a0.length : Int)) hf7 () (fun u4 g5 => [(0, s0_.v), (1, .func (.func 67) #[] [.pointer (some ⟨b1_c0_, 0, none⟩)].toArray), (4, .int .i64 0)]) (fun u4 g5 => Sat w0 (keys ([] : List Ent)) A [.ro (Lk N57 a0 xg0_), .ro (RdS N57.R (SV.v s0_) xg0_), .ro (BoxS b1_c0_ 57 [.string a1_c0_0, .string a1_c0_1, .int .i64 a1_c0_2, s1_c0_3_.v]), .ro (RdS R9 (SV.v s1_c0_3_) a1_c0_3)]) ⟨rfl, rfl, rfl, rfl, rfl, trivial⟩ (fun _ h => h.picks [0, 0, 0, 0] rfl) (nat_lt _) (fun _ h => by have h1 := (FactAt.get (F := RdS N57.R (SV.v s0_) xg0_) (.ro 1 rfl) h).1; rw [lk_len hL0_] at h1; exact h1) (fun _ _ => ⟨rfl, rfl, rfl, rfl⟩) ⟨rfl, rfl, rfl, rfl, rfl⟩ rfl rfl rfl (fun u4 g5 e => ?_) (fun aftk6 i1 x2 u4 g5 k6 hx3 hs J hJk6 hBk6 hX I cnk6 => ?_)
  · have hm := Flow.fin_b e hm
    refine nj_seq ?_
    refine cj_seq ?_
    refine cj_reg ?_
    refine lp rfl (p_as rfl) ?_
    refine lj_seq ?_
    obtain rfl := Option.some.inj hm
    exact cj_rt () [] Tryz.results92 (.tmp rfl .nil) rfl rfl
  · have hRk6 : ∀ t, k6 = .ret t → some t = some r := fun t e => by rw [hX t e] at hm; exact hm
    have hm := hs
    refine cj_seq ?_
    refine cj_reg ?_
    refine lp rfl (p_mv rfl) ?_
    refine lp rfl (p_as rfl) ?_
    refine lj_seq ?_
    refine cj_seq ?_
    refine cj_reg ?_
    refine lp rfl (p_mv rfl) ?_
    refine lp rfl (p_mv rfl) ?_
    refine lp rfl (p_mv rfl) ?_
    obtain ⟨gx2, hx3G⟩ := lk_get hL0_ hx3
    refine lp rfl (p_idx Tryz.underlying26 ty57 rfl rfl (.ro 1 rfl) (getI_nat.trans hx3G)) ?_
    refine lp rfl (p_leaN (cs := [.string x2.Key, .string x2.Places, .int .i64 x2.Long, gx2.v]) ty57 rfl (.ro 1 rfl) hx3G rfl) ?_
    obtain ⟨y8, hy8, hm⟩ := bindS hm
    refine r_call [] cf67 rfl rfl (ok_concert_CheckItems_1 x2 gx2 b1_c0_ a1_c0_0 a1_c0_1 a1_c0_2 s1_c0_3_ a1_c0_3 hy8) rfl rfl (.cons (.imp (.ro 0 rfl) (fun _ h => (Lk.at_ h hx3G))) (.cons (.ro 2 rfl) (.cons (.ro 3 rfl) .nil))) (fun _ => rfl) rfl (fun _ => ?_)
    refine lj_seq ?_
    refine cj_if (b := y8) rfl (fun hb => ?_) (fun hb => ?_)
    · have hm := ifB_t hb hm
      refine cj_seq ?_
      refine cj_reg ?_
      refine lp rfl (p_mv rfl) ?_
      refine lp rfl (p_as rfl) ?_
      refine lj_seq ?_
      have hm := hRk6 _ (Option.some.inj hm).symm
      obtain rfl := Option.some.inj hm
      exact cj_rt () [] Tryz.results92 (.tmp rfl .nil) rfl rfl
    · have hm := ifB_f hb hm
      refine cj_skip ?_
      refine nj_blk ?_
      exact cnk6 _ _ () () (hJk6 _ (Option.some.inj hm).symm) ⟨rfl, rfl, rfl, rfl, rfl, trivial⟩ (fun _ h => h.picks [0, 0, 0, 0] rfl)
theorem ok_slices_ContainsFunc_api_Item_api_Item__concert_CheckItems_1 (s0_ : SV) (xg0_ : List (TItem × SV)) (a0 : (List TItem)) (b1_c0_ : Nat) (a1_c0_0 : ByteArray) (a1_c0_1 : ByteArray) (a1_c0_2 : Int) (s1_c0_3_ : SV) (a1_c0_3 : (List ByteArray)) {r : Bool} (hm : m_slices_ContainsFunc_api_Item_api_Item__concert_CheckItems_1 a0 a1_c0_0 a1_c0_1 a1_c0_2 a1_c0_3 = some r) :
    Ctr Tryz.prog 66 [s0_.v, .func (.func 67) #[] [.pointer (some ⟨b1_c0_, 0, none⟩)].toArray].toArray ([] : List Ent) [Lk N57 a0 xg0_, RdS N57.R (SV.v s0_) xg0_, BoxS b1_c0_ 57 [.string a1_c0_0, .string a1_c0_1, .int .i64 a1_c0_2, s1_c0_3_.v], RdS R9 (SV.v s1_c0_3_) a1_c0_3] (X := Unit) (fun _ => .bool r) (fun _ => []) := by
  unfold m_slices_ContainsFunc_api_Item_api_Item__concert_CheckItems_1 at hm
  refine ctr_mk (vs := [(0, s0_.v), (1, .func (.func 67) #[] [.pointer (some ⟨b1_c0_, 0, none⟩)].toArray)]) Tryz.func66 rfl Tryz.ntmps66 rfl ⟨rfl, rfl, trivial⟩ (fun w0 A => ?_)
  refine cj_pure (F := Lk N57 a0 xg0_) (.ro 0 rfl) (fun _ h => h.1) (fun hL0_ => ?_)
  refine cj_seq ?_
  refine cj_reg ?_
  refine lp rfl (p_as rfl) ?_
  refine lj_seq ?_
  refine cj_seq ?_
  refine cj_reg ?_
  refine lp rfl (p_mv rfl) ?_
  refine lp rfl (p_mv rfl) ?_
  obtain ⟨y1, hy1, hm⟩ := bindS hm
  refine r_call [] cf92 rfl rfl (ok_slices_IndexFunc_api_Item_api_Item__concert_CheckItems_1 s0_ xg0_ a0 b1_c0_ a1_c0_0 a1_c0_1 a1_c0_2 s1_c0_3_ a1_c0_3 hy1) rfl rfl (.cons (.ro 0 rfl) (.cons (.ro 1 rfl) (.cons (.ro 2 rfl) (.cons (.ro 3 rfl) .nil)))) (fun _ => rfl) rfl (fun _ => ?_)
  refine lp rfl (p_geq rfl rfl) ?_
  refine lp rfl (p_as rfl) ?_
  refine lj_seq ?_
  obtain rfl := Option.some.inj hm
  exact cj_rt () [] Tryz.results66 (.tmp rfl .nil) rfl rfl
theorem ok_kit_Outside (a0 : Int) (a1 : Int) (a2 : Int) {r : Bool} (hm : m_kit_Outside a0 a1 a2 = some r) :
    Ctr Tryz.prog 33 [.int .i64 a0, .int .i64 a1, .int .i64 a2].toArray ([] : List Ent) [] (X := Unit) (fun _ => .bool r) (fun _ => []) := by
  unfold m_kit_Outside at hm
  refine ctr_mk (vs := [(0, .int .i64 a0), (1, .int .i64 a1), (2, .int .i64 a2)]) Tryz.func33 rfl Tryz.ntmps33 rfl ⟨rfl, rfl, rfl, trivial⟩ (fun w0 A => ?_)
  refine cj_seq ?_
  refine cj_reg ?_
  refine lp rfl (p_as rfl) ?_
  refine lj_seq ?_
  refine cj_seq ?_
  refine cj_reg ?_
  refine lp rfl (p_mv rfl) ?_
  refine lp rfl (p_mv rfl) ?_
  refine lp rfl (p_lss rfl rfl) ?_
  refine lp rfl (p_mv rfl) ?_
  refine lcase (i := 10) (decide (a0 < a1)) rfl (fun hb => ?_) (fun hb => ?_)
  · have hm := ifB_t hb hm
    refine ls false rfl rfl rfl rfl ?_
    refine ls false rfl rfl rfl rfl ?_
    refine ls false rfl rfl rfl rfl ?_
    refine lp rfl (p_pkt rfl rfl) ?_
    refine lp rfl (p_as rfl) ?_
    refine lj_seq ?_
    obtain rfl := Option.some.inj hm
    exact cj_rt () [] Tryz.results33 (.tmp rfl .nil) rfl rfl
  · have hm := ifB_f hb hm
    refine lg false rfl rfl rfl ?_
    refine lp rfl (p_mv rfl) ?_
    refine lg false rfl rfl rfl ?_
    refine lp rfl (p_mv rfl) ?_
    refine lg false rfl rfl rfl ?_
    refine lp rfl (p_gtr rfl rfl) ?_
    refine lp rfl (p_pkf rfl rfl) ?_
    refine lp rfl (p_as rfl) ?_
    refine lj_seq ?_
    obtain rfl := Option.some.inj hm
    exact cj_rt () [] Tryz.results33 (.tmp rfl .nil) rfl rfl
theorem ok_concert_partsFault (s0_ : SV) (a0 : (List ByteArray)) {r : Int} (hm : m_concert_partsFault a0 = some r) :
    Ctr Tryz.prog 68 [s0_.v].toArray ([] : List Ent) [RdS R9 (SV.v s0_) a0] (X := Unit) (fun _ => .int .i64 r) (fun _ => []) := by
  unfold m_concert_partsFault at hm
  refine ctr_mk (vs := [(0, s0_.v)]) Tryz.func68 rfl Tryz.ntmps68 rfl ⟨rfl, trivial⟩ (fun w0 A => ?_)
  refine cj_seq ?_
  refine cj_reg ?_
  refine lp rfl (p_as rfl) ?_
  refine lj_seq ?_
  refine cj_seq ?_
  refine cj_seq ?_
  refine cj_reg ?_
  refine lp rfl (p_mv rfl) ?_
  refine lp rfl (p_len Tryz.underlying55 rfl (.ro 0 rfl)) ?_
  refine lp rfl (p_eql rfl rfl) ?_
  refine lj_seq ?_
  refine cj_if (b := (a0.length : Int) == 0) rfl (fun hb => ?_) (fun hb => ?_)
  · have hm := ifB_t hb hm
    refine cj_seq ?_
    refine cj_reg ?_
    refine lp rfl (p_as rfl) ?_
    refine lj_seq ?_
    obtain rfl := Option.some.inj hm
    exact cj_rt () [] Tryz.results68 (.tmp rfl .nil) rfl rfl
  · have hm := ifB_f hb hm
    refine cj_skip ?_
    refine nj_seq ?_
    refine cj_seq ?_
    refine cj_seq ?_
    refine cj_reg ?_
    refine lp rfl (p_mv rfl) ?_
    refine lp rfl (p_len Tryz.underlying55 rfl (.ro 0 rfl)) ?_
    refine lp rfl (p_gtr rfl rfl) ?_
    refine lj_seq ?_
    refine cj_if (b := decide ((a0.length : Int) > 12)) rfl (fun hb => ?_) (fun hb => ?_)
    · have hm := ifB_t hb hm
      refine cj_seq ?_
      refine cj_reg ?_
      refine lp rfl (p_as rfl) ?_
      refine lj_seq ?_
      obtain rfl := Option.some.inj hm
      exact cj_rt () [] Tryz.results68 (.tmp rfl .nil) rfl rfl
    · have hm := ifB_f hb hm
      refine cj_skip ?_
      refine nj_seq ?_
      refine cj_seq ?_
      refine cj_seq ?_
      refine cj_reg ?_
      refine lp rfl (p_mv rfl) ?_
      refine lp rfl (p_len Tryz.underlying55 rfl (.ro 0 rfl)) ?_
      refine lp rfl (p_mv rfl) ?_
      refine lj_seq ?_
      obtain ⟨f7, hf7, hm⟩ := bindS hm
      refine cj_range (γ := Unit) (m := (a0.length : Int)) hf7 () (fun u4 g5 => [(0, s0_.v), (2, .int .i64 0), (11, s0_.v)]) (fun u4 g5 => Sat w0 (keys ([] : List Ent)) A [.ro (RdS R9 (SV.v s0_) a0)]) ⟨rfl, rfl, rfl, rfl, rfl, trivial⟩ (fun _ h => h.picks [0] rfl) (nat_lt _) (fun _ h => (FactAt.get (F := RdS R9 (SV.v s0_) a0) (.ro 0 rfl) h).1) (fun _ _ => ⟨rfl, rfl, rfl, rfl⟩) ⟨rfl, rfl, rfl, rfl, rfl⟩ rfl rfl rfl (fun u4 g5 e => ?_) (fun aftk6 i1 x2 u4 g5 k6 hx3 hs J hJk6 hBk6 hX I cnk6 => ?_)
      · have hm := Flow.fin_b e hm
        refine nj_seq ?_
        refine cj_seq ?_
        refine cj_reg ?_
        refine lp rfl (p_as rfl) ?_
        refine lj_seq ?_
        obtain rfl := Option.some.inj hm
        exact cj_rt () [] Tryz.results68 (.tmp rfl .nil) rfl rfl
      · have hRk6 : ∀ t, k6 = .ret t → some t = some r := fun t e => by rw [hX t e] at hm; exact hm
        have hm := hs
        refine cj_seq ?_
        refine cj_reg ?_
        refine lp rfl (p_mv rfl) ?_
        refine lp rfl (p_idx Tryz.underlying55 ty9 rfl rfl (.ro 0 rfl) (getI_nat.trans hx3)) ?_
        refine lp rfl (p_lde (o := 0) ty9 rfl rfl (.ro 0 rfl) hx3 rfl) ?_
        refine lp rfl (p_as rfl) ?_
        refine lp rfl (p_as rfl) ?_
        refine lj_seq ?_
        refine cj_seq ?_
        refine cj_seq ?_
        refine cj_reg ?_
        refine lp rfl (p_mv rfl) ?_
        obtain ⟨y8, hy8, hm⟩ := bindS hm
        refine r_call [] cf31 rfl rfl (ok_kit_IsKey x2 hy8) rfl rfl .nil (fun _ => rfl) rfl (fun _ => ?_)
        refine lp rfl (p_not rfl) ?_
        refine lj_seq ?_
        refine cj_if (b := !y8) rfl (fun hb => ?_) (fun hb => ?_)
        · have hm := ifB_t hb hm
          refine cj_seq ?_
          refine cj_reg ?_
          refine lp rfl (p_as rfl) ?_
          refine lj_seq ?_
          have hm := hRk6 _ (Option.some.inj hm).symm
          obtain rfl := Option.some.inj hm
          exact cj_rt () [] Tryz.results68 (.tmp rfl .nil) rfl rfl
        · have hm := ifB_f hb hm
          refine cj_skip ?_
          refine nj_seq ?_
          refine cj_seq ?_
          refine cj_reg ?_
          obtain ⟨k11, hk11, hm⟩ := bindS hm
          have hRk11 : ∀ t, k11 = .inr t → some t = some k6 := fun t e => by rw [e] at hm; exact hm
          refine lj_join (σ := Bool) (γ := Unit) (fun u9 => k11 = .inl u9) (fun u9 g10 => [(0, s0_.v), (2, .int .i64 0), (11, s0_.v), (12, .int .i64 (a0.length : Int)), (13, .int .i64 (i1 : Int)), (31, .bool u9)]) (fun u9 g10 => Sat w0 (keys ([] : List Ent)) A [.ro (RdS R9 (SV.v s0_) a0)]) (fun u9 g10 hq => ?_) (fun J cnk11 => ?_)
          · have hm := Sum.fin_l hq hm
            refine cj_if (b := u9) rfl (fun hb => ?_) (fun hb => ?_)
            · have hm := ifB_t hb hm
              refine cj_seq ?_
              refine cj_reg ?_
              refine lp rfl (p_as rfl) ?_
              refine lj_seq ?_
              have hm := hRk6 _ (Option.some.inj hm).symm
              obtain rfl := Option.some.inj hm
              exact cj_rt () [] Tryz.results68 (.tmp rfl .nil) rfl rfl
            · have hm := ifB_f hb hm
              refine cj_skip ?_
              refine nj_blk ?_
              exact cnk6 _ _ () () (hJk6 _ (Option.some.inj hm).symm) ⟨rfl, rfl, rfl, rfl, rfl, trivial⟩ (fun _ h => h.picks [0] rfl)
          · have hm := hk11
            refine lp rfl (p_mv rfl) ?_
            refine lp rfl (p_gtr rfl rfl) ?_
            refine lp rfl (p_mv rfl) ?_
            refine lcase (i := 23) (decide ((i1 : Int) > 0)) rfl (fun hb => ?_) (fun hb => ?_)
            · have hm := ifB_t hb hm
              refine lg true rfl rfl rfl ?_
              refine lp rfl (p_mv rfl) ?_
              refine lg true rfl rfl rfl ?_
              refine lp rfl (p_mv rfl) ?_
              refine lg true rfl rfl rfl ?_
              refine lp rfl (p_mv rfl) ?_
              refine lg true rfl rfl rfl ?_
              refine lp rfl (p_sub rfl rfl) ?_
              refine lg true rfl rfl rfl ?_
              obtain ⟨e12, he12, hm⟩ := bindS hm
              refine lp rfl (p_idx Tryz.underlying55 ty9 rfl rfl (.ro 0 rfl) he12) ?_
              refine lg true rfl rfl rfl ?_
              refine lp rfl (p_lde (o := 0) ty9 rfl rfl (.ro 0 rfl) (getI_spec he12).2 rfl) ?_
              refine lg true rfl rfl rfl ?_
              refine lp rfl (p_les rfl rfl) ?_
              refine lp rfl (p_pkt rfl rfl) ?_
              refine lj_nil ?_
              exact cnk11 _ _ (Op.bytesLess x2.toList e12.toList || x2.toList == e12.toList) () (Option.some.inj hm).symm ⟨rfl, rfl, rfl, rfl, rfl, rfl, trivial⟩ (fun _ h => h.picks [0] rfl)
            · have hm := ifB_f hb hm
              refine ls true rfl rfl rfl rfl ?_
              refine ls true rfl rfl rfl rfl ?_
              refine ls true rfl rfl rfl rfl ?_
              refine ls true rfl rfl rfl rfl ?_
              refine ls true rfl rfl rfl rfl ?_
              refine ls true rfl rfl rfl rfl ?_
              refine ls true rfl rfl rfl rfl ?_
              refine lp rfl (p_pkf rfl rfl) ?_
              refine lj_nil ?_
              exact cnk11 _ _ false () (Option.some.inj hm).symm ⟨rfl, rfl, rfl, rfl, rfl, rfl, trivial⟩ (fun _ h => h.picks [0] rfl)
theorem ok_concert_CheckItems (s0_ : SV) (xg0_ : List (TItem × SV)) (a0 : (List TItem)) {r : Int} (hm : m_concert_CheckItems a0 = some r) :
    Ctr Tryz.prog 47 [s0_.v].toArray ([] : List Ent) [Lk N57 a0 xg0_, RdS N57.R (SV.v s0_) xg0_] (X := Unit) (fun _ => .int .i64 r) (fun _ => []) := by
  unfold m_concert_CheckItems at hm
  refine ctr_mk (vs := [(0, s0_.v)]) Tryz.func47 rfl Tryz.ntmps47 rfl ⟨rfl, trivial⟩ (fun w0 A => ?_)
  refine cj_pure (F := Lk N57 a0 xg0_) (.ro 0 rfl) (fun _ h => h.1) (fun hL0_ => ?_)
  refine cj_seq ?_
  refine cj_reg ?_
  refine lp rfl (p_as rfl) ?_
  refine lj_seq ?_
  refine cj_seq ?_
  refine cj_seq ?_
  refine cj_reg ?_
  refine lp rfl (p_mv rfl) ?_
  refine lp rfl (p_lenG hL0_ Tryz.underlying26 rfl (.ro 1 rfl)) ?_
  refine lp rfl (p_gtr rfl rfl) ?_
  refine lj_seq ?_
  refine cj_if (b := decide ((a0.length : Int) > 60)) rfl (fun hb => ?_) (fun hb => ?_)
  · have hm := ifB_t hb hm
    refine cj_seq ?_
    refine cj_reg ?_
    refine lp rfl (p_as rfl) ?_
    refine lj_seq ?_
    obtain rfl := Option.some.inj hm
    exact cj_rt () [] Tryz.results47 (.tmp rfl .nil) rfl rfl
  · have hm := ifB_f hb hm
    refine cj_skip ?_
    refine nj_seq ?_
    refine cj_seq ?_
    refine cj_seq ?_
    refine cj_reg ?_
    refine lp rfl (p_mv rfl) ?_
    refine lp rfl (p_lenG hL0_ Tryz.underlying26 rfl (.ro 1 rfl)) ?_
    refine lp rfl (p_mv rfl) ?_
    refine lj_seq ?_
    obtain ⟨f7, hf7, hm⟩ := bindS hm
    refine cj_range (γ := Unit) (m := (a0.length : Int)) hf7 () (fun u4 g5 => [(0, s0_.v), (2, .int .i64 0), (9, s0_.v)]) (fun u4 g5 => Sat w0 (keys ([] : List Ent)) A [.ro (Lk N57 a0 xg0_), .ro (RdS N57.R (SV.v s0_) xg0_)]) ⟨rfl, rfl, rfl, rfl, rfl, trivial⟩ (fun _ h => h.picks [0, 0] rfl) (nat_lt _) (fun _ h => by have h1 := (FactAt.get (F := RdS N57.R (SV.v s0_) xg0_) (.ro 1 rfl) h).1; rw [lk_len hL0_] at h1; exact h1) (fun _ _ => ⟨rfl, rfl, rfl, rfl⟩) ⟨rfl, rfl, rfl, rfl, rfl⟩ rfl rfl rfl (fun u4 g5 e => ?_) (fun aftk6 i1 x2 u4 g5 k6 hx3 hs J hJk6 hBk6 hX I cnk6 => ?_)
    · have hm := Flow.fin_b e hm
      refine nj_seq ?_
      refine cj_seq ?_
      refine cj_reg ?_
      refine lp rfl (p_as rfl) ?_
      refine lj_seq ?_
      obtain rfl := Option.some.inj hm
      exact cj_rt () [] Tryz.results47 (.tmp rfl .nil) rfl rfl
    · have hRk6 : ∀ t, k6 = .ret t → some t = some r := fun t e => by rw [hX t e] at hm; exact hm
      have hm := hs
      refine cj_seq ?_
      refine cj_reg ?_
      refine lp rfl (p_mv rfl) ?_
      obtain ⟨gx2, hx3G⟩ := lk_get hL0_ hx3
      refine lp rfl (p_idx Tryz.underlying26 ty57 rfl rfl (.ro 1 rfl) (getI_nat.trans hx3G)) ?_
      refine lp rfl (p_leaN (cs := [.string x2.Key, .string x2.Places, .int .i64 x2.Long, gx2.v]) ty57 rfl (.ro 1 rfl) hx3G rfl) ?_
      refine r_al ty57 rfl (fun b8 => ?_)
      refine lp rfl (p_as rfl) ?_
      refine r_sb (vs := [.string x2.Key, .string x2.Places, .int .i64 x2.Long, gx2.v]) (j := 0) ty57 rfl rfl rfl rfl rfl rfl rfl ?_
      refine lj_seq ?_
      refine cj_seq ?_
      refine cj_blk ?_
      refine cj_seq ?_
      refine cj_reg ?_
      obtain ⟨k11, hk11, hm⟩ := bindS hm
      have hRk11 : ∀ t, k11 = .inr t → some t = some k6 := fun t e => by rw [e] at hm; exact hm
      refine lj_join (σ := Bool) (γ := Unit) (fun u9 => k11 = .inl u9) (fun u9 g10 => [(0, s0_.v), (2, .int .i64 0), (3, .int .i64 (i1 : Int)), (4, .pointer (some ⟨b8, 0, none⟩)), (9, s0_.v), (10, .int .i64 (a0.length : Int)), (11, .int .i64 (i1 : Int)), (16, .bool u9)]) (fun u9 g10 => Sat w0 (keys ([] : List Ent)) A [.box b8 57 [.string x2.Key, .string x2.Places, .int .i64 x2.Long, gx2.v], .ro (Lk N57 a0 xg0_), .ro (RdS N57.R (SV.v s0_) xg0_)]) (fun u9 g10 hq => ?_) (fun J cnk11 => ?_)
      · have hm := Sum.fin_l hq hm
        refine cj_if (b := u9) rfl (fun hb => ?_) (fun hb => ?_)
        · have hm := ifB_t hb hm
          refine cj_seq ?_
          refine cj_reg ?_
          refine lp rfl (p_as rfl) ?_
          refine lj_seq ?_
          have hm := hRk6 _ (Option.some.inj hm).symm
          obtain rfl := Option.some.inj hm
          exact cj_rt () [] Tryz.results47 (.tmp rfl .nil) rfl rfl
        · have hm := ifB_f hb hm
          refine cj_seq ?_
          refine cj_reg ?_
          refine lp rfl (p_mv rfl) ?_
          refine lp rfl (p_mv rfl) ?_
          obtain ⟨q14, hq14, hm⟩ := bindS hm
          obtain ⟨q14G, hq14G, hLq14, hsq14⟩ := lk_cut hL0_ hq14
          refine lp rfl (p_cut Tryz.underlying26 ty57 rfl rfl rfl rfl rfl (.ro 2 rfl) rfl rfl hq14G) ?_
          refine lp rfl (p_fn (cv := [.pointer (some ⟨b8, 0, none⟩)]) rfl) ?_
          obtain ⟨y15, hy15, hm⟩ := bindS hm
          refine r_call [] cf66 rfl rfl (ok_slices_ContainsFunc_api_Item_api_Item__concert_CheckItems_1 (s0_.sub N57.R.sz (0 : Int).toNat (i1 : Int).toNat) q14G q14 b8 x2.Key x2.Places x2.Long gx2 x2.Parts hy15) rfl rfl (.cons (.imp (.ro 1 rfl) (fun _ h => Lk.sub h hLq14 hsq14)) (.cons (.imp (.ro 2 rfl) (fun _ h => h.cut hq14G)) (.cons (.imp (.box 0 rfl) (fun _ h => h)) (.cons (.imp (.ro 1 rfl) (fun _ h => (Lk.at_ h hx3G))) .nil)))) (fun _ => rfl) rfl (fun _ => ?_)
          refine lp rfl (p_as rfl) ?_
          refine lj_seq ?_
          refine cj_if (b := y15) rfl (fun hb => ?_) (fun hb => ?_)
          · have hm := ifB_t hb hm
            refine cj_seq ?_
            refine cj_reg ?_
            refine lp rfl (p_as rfl) ?_
            refine lj_seq ?_
            have hm := hRk6 _ (Option.some.inj hm).symm
            obtain rfl := Option.some.inj hm
            exact cj_rt () [] Tryz.results47 (.tmp rfl .nil) rfl rfl
          · have hm := ifB_f hb hm
            refine cj_seq ?_
            refine cj_reg ?_
            refine lp rfl (p_fab fl57_2 rfl) ?_
            refine lp rfl (p_lbs ty3 rfl (j := 0) rfl rfl) ?_
            obtain ⟨y16, hy16, hm⟩ := bindS hm
            refine r_call [] cf33 rfl rfl (ok_kit_Outside x2.Long 1 86400000 hy16) rfl rfl .nil (fun _ => rfl) rfl (fun _ => ?_)
            refine lp rfl (p_as rfl) ?_
            refine lj_seq ?_
            refine cj_if (b := y16) rfl (fun hb => ?_) (fun hb => ?_)
            · have hm := ifB_t hb hm
              refine cj_seq ?_
              refine cj_reg ?_
              refine lp rfl (p_as rfl) ?_
              refine lj_seq ?_
              have hm := hRk6 _ (Option.some.inj hm).symm
              obtain rfl := Option.some.inj hm
              exact cj_rt () [] Tryz.results47 (.tmp rfl .nil) rfl rfl
            · have hm := ifB_f hb hm
              refine cj_skip ?_
              refine nj_blk ?_
              refine nj_seq ?_
              refine cj_seq ?_
              refine cj_reg ?_
              refine lp rfl (p_fab fl57_3 rfl) ?_
              refine lp rfl (p_lbs ty55 rfl (j := 0) rfl rfl) ?_
              obtain ⟨y17, hy17, hm⟩ := bindS hm
              refine r_call [] cf68 rfl rfl (ok_concert_partsFault gx2 x2.Parts hy17) rfl rfl (.cons (.imp (.ro 1 rfl) (fun _ h => (Lk.at_ h hx3G))) .nil) (fun _ => rfl) rfl (fun _ => ?_)
              refine lp rfl (p_as rfl) ?_
              refine lj_seq ?_
              refine cj_seq ?_
              refine cj_reg ?_
              refine lp rfl (p_mv rfl) ?_
              refine lp rfl (p_neq rfl rfl) ?_
              refine lj_seq ?_
              refine cj_if (b := y17 != 0) rfl (fun hb => ?_) (fun hb => ?_)
              · have hm := ifB_t hb hm
                refine cj_seq ?_
                refine cj_reg ?_
                refine lp rfl (p_mv rfl) ?_
                refine lp rfl (p_as rfl) ?_
                refine lj_seq ?_
                have hm := hRk6 _ (Option.some.inj hm).symm
                obtain rfl := Option.some.inj hm
                exact cj_rt () [] Tryz.results47 (.tmp rfl .nil) rfl rfl
              · have hm := ifB_f hb hm
                refine cj_skip ?_
                refine nj_blk ?_
                exact cnk6 _ _ () () (hJk6 _ (Option.some.inj hm).symm) ⟨rfl, rfl, rfl, rfl, rfl, trivial⟩ (fun _ h => h.picks [1, 1] rfl)
      · have hm := hk11
        refine lp rfl (p_fab fl57_0 rfl) ?_
        refine lp rfl (p_lbs ty9 rfl (j := 0) rfl rfl) ?_
        obtain ⟨y12, hy12, hm⟩ := bindS hm
        refine r_call [] cf31 rfl rfl (ok_kit_IsKey x2.Key hy12) rfl rfl .nil (fun _ => rfl) rfl (fun _ => ?_)
        refine lp rfl (p_not rfl) ?_
        refine lp rfl (p_mv rfl) ?_
        refine lcase (i := 21) (!y12) rfl (fun hb => ?_) (fun hb => ?_)
        · have hm := ifB_t hb hm
          refine ls false rfl rfl rfl rfl ?_
          refine ls false rfl rfl rfl rfl ?_
          refine ls false rfl rfl rfl rfl ?_
          refine ls false rfl rfl rfl rfl ?_
          refine lp rfl (p_pkt rfl rfl) ?_
          refine lp rfl (p_as rfl) ?_
          refine lj_nil ?_
          exact cnk11 _ _ true () (Option.some.inj hm).symm ⟨rfl, rfl, rfl, rfl, rfl, rfl, rfl, rfl, trivial⟩ (fun _ h => h.picks [0, 0, 0] rfl)
        · have hm := ifB_f hb hm
          refine lg false rfl rfl rfl ?_
          refine lp rfl (p_fab fl57_1 rfl) ?_
          refine lg false rfl rfl rfl ?_
          refine lp rfl (p_lbs ty9 rfl (j := 0) rfl rfl) ?_
          refine lg false rfl rfl rfl ?_
          obtain ⟨y13, hy13, hm⟩ := bindS hm
          refine r_call [] cf31 rfl rfl (ok_kit_IsKey x2.Places hy13) rfl rfl .nil (fun _ => rfl) rfl (fun _ => ?_)
          refine lg false rfl rfl rfl ?_
          refine lp rfl (p_not rfl) ?_
          refine lp rfl (p_pkf rfl rfl) ?_
          refine lp rfl (p_as rfl) ?_
          refine lj_nil ?_
          exact cnk11 _ _ (!y13) () (Option.some.inj hm).symm ⟨rfl, rfl, rfl, rfl, rfl, rfl, rfl, rfl, trivial⟩ (fun _ h => h.picks [0, 0, 0] rfl)
theorem ok_concert_CheckProgram (a0 : TProgram) (s0_0_ : SV) (xg0_0_ : List (TItem × SV)) {r : Int} (hm : m_concert_CheckProgram a0 = some r) :
    Ctr Tryz.prog 24 [.agg [s0_0_.v, .int .i64 a0.Change, .int .i64 a0.Clap, .int .i64 a0.Break, .int .i64 a0.Half].toArray].toArray ([] : List Ent) [Lk N57 a0.Items xg0_0_, RdS N57.R (SV.v s0_0_) xg0_0_] (X := Unit) (fun _ => .int .i64 r) (fun _ => []) := by
  unfold m_concert_CheckProgram at hm
  refine ctr_mk (vs := [(0, .agg [s0_0_.v, .int .i64 a0.Change, .int .i64 a0.Clap, .int .i64 a0.Break, .int .i64 a0.Half].toArray)]) Tryz.func24 rfl Tryz.ntmps24 rfl ⟨rfl, trivial⟩ (fun w0 A => ?_)
  refine cj_pure (F := Lk N57 a0.Items xg0_0_) (.ro 0 rfl) (fun _ h => h.1) (fun hL0_0_ => ?_)
  refine cj_seq ?_
  refine cj_reg ?_
  refine r_bx (cs := [s0_0_.v, .int .i64 a0.Change, .int .i64 a0.Clap, .int .i64 a0.Break, .int .i64 a0.Half]) rfl rfl rfl (fun b1 => ?_)
  refine lp rfl (p_as rfl) ?_
  refine lj_seq ?_
  refine cj_seq ?_
  refine cj_seq ?_
  refine cj_reg ?_
  refine lp rfl (p_fab fl28_0 rfl) ?_
  refine lp rfl (p_lbs ty26 rfl (j := 0) rfl rfl) ?_
  obtain ⟨y2, hy2, hm⟩ := bindS hm
  refine r_call [] cf47 rfl rfl (ok_concert_CheckItems s0_0_ xg0_0_ a0.Items hy2) rfl rfl (.cons (.ro 1 rfl) (.cons (.ro 2 rfl) .nil)) (fun _ => rfl) rfl (fun _ => ?_)
  refine lp rfl (p_as rfl) ?_
  refine lj_seq ?_
  refine cj_seq ?_
  refine cj_reg ?_
  refine lp rfl (p_mv rfl) ?_
  refine lp rfl (p_neq rfl rfl) ?_
  refine lj_seq ?_
  refine cj_if (b := y2 != 0) rfl (fun hb => ?_) (fun hb => ?_)
  · have hm := ifB_t hb hm
    refine cj_seq ?_
    refine cj_reg ?_
    refine lp rfl (p_mv rfl) ?_
    refine lp rfl (p_as rfl) ?_
    refine lj_seq ?_
    obtain rfl := Option.some.inj hm
    exact cj_rt () [] Tryz.results24 (.tmp rfl .nil) rfl rfl
  · have hm := ifB_f hb hm
    refine cj_skip ?_
    refine nj_seq ?_
    refine cj_seq ?_
    refine cj_seq ?_
    refine cj_reg ?_
    obtain ⟨k5, hk5, hm⟩ := bindS hm
    have hRk5 : ∀ t, k5 = .inr t → some t = some r := fun t e => by rw [e] at hm; exact hm
    refine lj_join (σ := Bool) (γ := Unit) (fun u3 => k5 = .inl u3) (fun u3 g4 => [(2, .int .i64 0), (32, .bool u3)]) (fun u3 g4 => Sat w0 (keys ([] : List Ent)) A []) (fun u3 g4 hq => ?_) (fun J cnk5 => ?_)
    · have hm := Sum.fin_l hq hm
      refine cj_if (b := u3) rfl (fun hb => ?_) (fun hb => ?_)
      · have hm := ifB_t hb hm
        refine cj_seq ?_
        refine cj_reg ?_
        refine lp rfl (p_as rfl) ?_
        refine lj_seq ?_
        obtain rfl := Option.some.inj hm
        exact cj_rt () [] Tryz.results24 (.tmp rfl .nil) rfl rfl
      · have hm := ifB_f hb hm
        refine cj_skip ?_
        refine nj_seq ?_
        refine cj_seq ?_
        refine cj_reg ?_
        refine lp rfl (p_as rfl) ?_
        refine lj_seq ?_
        obtain rfl := Option.some.inj hm
        exact cj_rt () [] Tryz.results24 (.tmp rfl .nil) rfl rfl
    · have hm := hk5
      refine lp rfl (p_fab fl28_1 rfl) ?_
      refine lp rfl (p_lbs ty3 rfl (j := 0) rfl rfl) ?_
      obtain ⟨y6, hy6, hm⟩ := bindS hm
      refine r_call [] cf33 rfl rfl (ok_kit_Outside a0.Change 0 86400000 hy6) rfl rfl .nil (fun _ => rfl) rfl (fun _ => ?_)
      refine lp rfl (p_mv rfl) ?_
      refine lcase (i := 13) y6 rfl (fun hb => ?_) (fun hb => ?_)
      · have hm := ifB_t hb hm
        refine ls false rfl rfl rfl rfl ?_
        refine ls false rfl rfl rfl rfl ?_
        refine ls false rfl rfl rfl rfl ?_
        refine lp rfl (p_pkt rfl rfl) ?_
        refine lp rfl (p_mv rfl) ?_
        refine ls false rfl rfl rfl rfl ?_
        refine ls false rfl rfl rfl rfl ?_
        refine ls false rfl rfl rfl rfl ?_
        refine lp rfl (p_pkt rfl rfl) ?_
        refine lp rfl (p_mv rfl) ?_
        refine ls false rfl rfl rfl rfl ?_
        refine ls false rfl rfl rfl rfl ?_
        refine ls false rfl rfl rfl rfl ?_
        refine ls false rfl rfl rfl rfl ?_
        refine ls false rfl rfl rfl rfl ?_
        refine ls false rfl rfl rfl rfl ?_
        refine ls false rfl rfl rfl rfl ?_
        refine ls false rfl rfl rfl rfl ?_
        refine lp rfl (p_pkt rfl rfl) ?_
        refine lj_nil ?_
        exact cnk5 _ _ true () (Option.some.inj hm).symm ⟨rfl, rfl, trivial⟩ (fun _ h => h.picks [] rfl)
      · have hm := ifB_f hb hm
        refine lg false rfl rfl rfl ?_
        refine lp rfl (p_fab fl28_2 rfl) ?_
        refine lg false rfl rfl rfl ?_
        refine lp rfl (p_lbs ty3 rfl (j := 0) rfl rfl) ?_
        refine lg false rfl rfl rfl ?_
        obtain ⟨y7, hy7, hm⟩ := bindS hm
        refine r_call [] cf33 rfl rfl (ok_kit_Outside a0.Clap 0 86400000 hy7) rfl rfl .nil (fun _ => rfl) rfl (fun _ => ?_)
        refine lp rfl (p_pkf rfl rfl) ?_
        refine lp rfl (p_mv rfl) ?_
        refine lcase (i := 18) y7 rfl (fun hb => ?_) (fun hb => ?_)
        · have hm := ifB_t hb hm
          refine ls false rfl rfl rfl rfl ?_
          refine ls false rfl rfl rfl rfl ?_
          refine ls false rfl rfl rfl rfl ?_
          refine lp rfl (p_pkt rfl rfl) ?_
          refine lp rfl (p_mv rfl) ?_
          refine ls false rfl rfl rfl rfl ?_
          refine ls false rfl rfl rfl rfl ?_
          refine ls false rfl rfl rfl rfl ?_
          refine ls false rfl rfl rfl rfl ?_
          refine ls false rfl rfl rfl rfl ?_
          refine ls false rfl rfl rfl rfl ?_
          refine ls false rfl rfl rfl rfl ?_
          refine ls false rfl rfl rfl rfl ?_
          refine lp rfl (p_pkt rfl rfl) ?_
          refine lj_nil ?_
          exact cnk5 _ _ true () (Option.some.inj hm).symm ⟨rfl, rfl, trivial⟩ (fun _ h => h.picks [] rfl)
        · have hm := ifB_f hb hm
          refine lg false rfl rfl rfl ?_
          refine lp rfl (p_fab fl28_3 rfl) ?_
          refine lg false rfl rfl rfl ?_
          refine lp rfl (p_lbs ty3 rfl (j := 0) rfl rfl) ?_
          refine lg false rfl rfl rfl ?_
          obtain ⟨y8, hy8, hm⟩ := bindS hm
          refine r_call [] cf33 rfl rfl (ok_kit_Outside a0.Break 0 86400000 hy8) rfl rfl .nil (fun _ => rfl) rfl (fun _ => ?_)
          refine lp rfl (p_pkf rfl rfl) ?_
          refine lp rfl (p_mv rfl) ?_
          refine lcase (i := 23) y8 rfl (fun hb => ?_) (fun hb => ?_)
          · have hm := ifB_t hb hm
            refine ls false rfl rfl rfl rfl ?_
            refine ls false rfl rfl rfl rfl ?_
            refine ls false rfl rfl rfl rfl ?_
            refine ls false rfl rfl rfl rfl ?_
            refine ls false rfl rfl rfl rfl ?_
            refine ls false rfl rfl rfl rfl ?_
            refine ls false rfl rfl rfl rfl ?_
            refine ls false rfl rfl rfl rfl ?_
            refine lp rfl (p_pkt rfl rfl) ?_
            refine lj_nil ?_
            exact cnk5 _ _ true () (Option.some.inj hm).symm ⟨rfl, rfl, trivial⟩ (fun _ h => h.picks [] rfl)
          · have hm := ifB_f hb hm
            refine lg false rfl rfl rfl ?_
            refine lp rfl (p_fab fl28_4 rfl) ?_
            refine lg false rfl rfl rfl ?_
            refine lp rfl (p_lbs ty3 rfl (j := 0) rfl rfl) ?_
            refine lg false rfl rfl rfl ?_
            refine lp rfl (p_fab fl28_0 rfl) ?_
            refine lg false rfl rfl rfl ?_
            refine lp rfl (p_lbs ty26 rfl (j := 0) rfl rfl) ?_
            refine lg false rfl rfl rfl ?_
            refine lp rfl (p_lenG hL0_0_ Tryz.underlying26 rfl (.ro 2 rfl)) ?_
            refine lg false rfl rfl rfl ?_
            refine lp rfl (p_sub rfl rfl) ?_
            refine lg false rfl rfl rfl ?_
            refine lp rfl (p_max rfl rfl) ?_
            refine lg false rfl rfl rfl ?_
            obtain ⟨y9, hy9, hm⟩ := bindS hm
            refine r_call [] cf33 rfl rfl (ok_kit_Outside a0.Half (-1) (max (-1) (w64 ((a0.Items.length : Int) - 2))) hy9) rfl rfl .nil (fun _ => rfl) rfl (fun _ => ?_)
            refine lp rfl (p_pkf rfl rfl) ?_
            refine lj_nil ?_
            exact cnk5 _ _ y9 () (Option.some.inj hm).symm ⟨rfl, rfl, trivial⟩ (fun _ h => h.picks [] rfl)
theorem ok_bits_Len (a0 : Int) {r : Int} (hm : m_bits_Len a0 = some r) :
    Ctr Tryz.prog 49 [.int .u64 a0].toArray ([] : List Ent) [] (X := Unit) (fun _ => .int .i64 r) (fun _ => []) := by
  unfold m_bits_Len at hm
  refine ctr_mk (vs := [(0, .int .u64 a0)]) Tryz.func49 rfl Tryz.ntmps49 rfl ⟨rfl, trivial⟩ (fun w0 A => ?_)
  refine cj_seq ?_
  refine cj_reg ?_
  refine lp rfl (p_as rfl) ?_
  refine lj_seq ?_
  refine cj_seq ?_
  refine cj_if_f rfl ?_
  refine cj_skip ?_
  refine nj_seq ?_
  refine cj_seq ?_
  refine cj_reg ?_
  refine lp rfl (p_mv rfl) ?_
  obtain ⟨y1, hy1, hm⟩ := bindS hm
  refine r_call [] cf78 rfl rfl (ok_bits_Len64 a0 hy1) rfl rfl .nil (fun _ => rfl) rfl (fun _ => ?_)
  refine lp rfl (p_as rfl) ?_
  refine lj_seq ?_
  obtain rfl := Option.some.inj hm
  exact cj_rt () [] Tryz.results49 (.tmp rfl .nil) rfl rfl
theorem ok_cmp_isNaN_int (a0 : Int) {r : Bool} (hm : m_cmp_isNaN_int a0 = some r) :
    Ctr Tryz.prog 50 [.int .i64 a0].toArray ([] : List Ent) [] (X := Unit) (fun _ => .bool r) (fun _ => []) := by
  unfold m_cmp_isNaN_int at hm
  refine ctr_mk (vs := [(0, .int .i64 a0)]) Tryz.func50 rfl Tryz.ntmps50 rfl ⟨rfl, trivial⟩ (fun w0 A => ?_)
  refine cj_seq ?_
  refine cj_reg ?_
  refine lp rfl (p_as rfl) ?_
  refine lj_seq ?_
  refine cj_seq ?_
  refine cj_reg ?_
  refine lp rfl (p_mv rfl) ?_
  refine lp rfl (p_mv rfl) ?_
  refine lp rfl (p_neq rfl rfl) ?_
  refine lp rfl (p_as rfl) ?_
  refine lj_seq ?_
  obtain rfl := Option.some.inj hm
  exact cj_rt () [] Tryz.results50 (.tmp rfl .nil) rfl rfl
theorem ok_cmp_Compare_int (a0 : Int) (a1 : Int) {r : Int} (hm : m_cmp_Compare_int a0 a1 = some r) :
    Ctr Tryz.prog 28 [.int .i64 a0, .int .i64 a1].toArray ([] : List Ent) [] (X := Unit) (fun _ => .int .i64 r) (fun _ => []) := by
  unfold m_cmp_Compare_int at hm
  refine ctr_mk (vs := [(0, .int .i64 a0), (1, .int .i64 a1)]) Tryz.func28 rfl Tryz.ntmps28 rfl ⟨rfl, rfl, trivial⟩ (fun w0 A => ?_)
  refine cj_seq ?_
  refine cj_reg ?_
  refine lp rfl (p_as rfl) ?_
  refine lj_seq ?_
  refine cj_seq ?_
  refine cj_reg ?_
  refine lp rfl (p_mv rfl) ?_
  obtain ⟨y1, hy1, hm⟩ := bindS hm
  refine r_call [] cf50 rfl rfl (ok_cmp_isNaN_int a0 hy1) rfl rfl .nil (fun _ => rfl) rfl (fun _ => ?_)
  refine lp rfl (p_as rfl) ?_
  refine lj_seq ?_
  refine cj_seq ?_
  refine cj_reg ?_
  refine lp rfl (p_mv rfl) ?_
  obtain ⟨y2, hy2, hm⟩ := bindS hm
  refine r_call [] cf50 rfl rfl (ok_cmp_isNaN_int a1 hy2) rfl rfl .nil (fun _ => rfl) rfl (fun _ => ?_)
  refine lp rfl (p_as rfl) ?_
  refine lj_seq ?_
  refine cj_seq ?_
  refine cj_seq ?_
  refine cj_reg ?_
  refine lp rfl (p_mv rfl) ?_
  refine lj_seq ?_
  refine cj_if (b := y1) rfl (fun hb => ?_) (fun hb => ?_)
  · have hm := ifB_t hb hm
    refine cj_seq ?_
    refine cj_seq ?_
    refine cj_reg ?_
    refine lp rfl (p_mv rfl) ?_
    refine lj_seq ?_
    refine cj_if (b := y2) rfl (fun hb => ?_) (fun hb => ?_)
    · have hm := ifB_t hb hm
      refine cj_seq ?_
      refine cj_reg ?_
      refine lp rfl (p_as rfl) ?_
      refine lj_seq ?_
      obtain rfl := Option.some.inj hm
      exact cj_rt () [] Tryz.results28 (.tmp rfl .nil) rfl rfl
    · have hm := ifB_f hb hm
      refine cj_skip ?_
      refine nj_seq ?_
      refine cj_seq ?_
      refine cj_reg ?_
      refine lp rfl (p_as rfl) ?_
      refine lj_seq ?_
      obtain rfl := Option.some.inj hm
      exact cj_rt () [] Tryz.results28 (.tmp rfl .nil) rfl rfl
  · have hm := ifB_f hb hm
    refine cj_skip ?_
    refine nj_seq ?_
    refine cj_seq ?_
    refine cj_seq ?_
    refine cj_reg ?_
    refine lp rfl (p_mv rfl) ?_
    refine lj_seq ?_
    refine cj_if (b := y2) rfl (fun hb => ?_) (fun hb => ?_)
    · have hm := ifB_t hb hm
      refine cj_seq ?_
      refine cj_reg ?_
      refine lp rfl (p_as rfl) ?_
      refine lj_seq ?_
      obtain rfl := Option.some.inj hm
      exact cj_rt () [] Tryz.results28 (.tmp rfl .nil) rfl rfl
    · have hm := ifB_f hb hm
      refine cj_skip ?_
      refine nj_seq ?_
      refine cj_seq ?_
      refine cj_seq ?_
      refine cj_reg ?_
      refine lp rfl (p_mv rfl) ?_
      refine lp rfl (p_mv rfl) ?_
      refine lp rfl (p_lss rfl rfl) ?_
      refine lj_seq ?_
      refine cj_if (b := decide (a0 < a1)) rfl (fun hb => ?_) (fun hb => ?_)
      · have hm := ifB_t hb hm
        refine cj_seq ?_
        refine cj_reg ?_
        refine lp rfl (p_as rfl) ?_
        refine lj_seq ?_
        obtain rfl := Option.some.inj hm
        exact cj_rt () [] Tryz.results28 (.tmp rfl .nil) rfl rfl
      · have hm := ifB_f hb hm
        refine cj_skip ?_
        refine nj_seq ?_
        refine cj_seq ?_
        refine cj_seq ?_
        refine cj_reg ?_
        refine lp rfl (p_mv rfl) ?_
        refine lp rfl (p_mv rfl) ?_
        refine lp rfl (p_gtr rfl rfl) ?_
        refine lj_seq ?_
        refine cj_if (b := decide (a0 > a1)) rfl (fun hb => ?_) (fun hb => ?_)
        · have hm := ifB_t hb hm
          refine cj_seq ?_
          refine cj_reg ?_
          refine lp rfl (p_as rfl) ?_
          refine lj_seq ?_
          obtain rfl := Option.some.inj hm
          exact cj_rt () [] Tryz.results28 (.tmp rfl .nil) rfl rfl
        · have hm := ifB_f hb hm
          refine cj_skip ?_
          refine nj_seq ?_
          refine cj_seq ?_
          refine cj_reg ?_
          refine lp rfl (p_as rfl) ?_
          refine lj_seq ?_
          obtain rfl := Option.some.inj hm
          exact cj_rt () [] Tryz.results28 (.tmp rfl .nil) rfl rfl
theorem ok_cmp_Or_int (s0_ : SV) (a0 : (List Int)) {r : Int} (hm : m_cmp_Or_int a0 = some r) :
    Ctr Tryz.prog 27 [s0_.v].toArray ([] : List Ent) [RdS R3 (SV.v s0_) a0] (X := Unit) (fun _ => .int .i64 r) (fun _ => []) := by
  unfold m_cmp_Or_int at hm
  refine ctr_mk (vs := [(0, s0_.v)]) Tryz.func27 rfl Tryz.ntmps27 rfl ⟨rfl, trivial⟩ (fun w0 A => ?_)
  refine cj_seq ?_
  refine cj_reg ?_
  refine lp rfl (p_as rfl) ?_
  refine lj_seq ?_
  refine cj_seq ?_
  refine cj_reg ?_
  refine lp rfl (p_as rfl) ?_
  refine lj_seq ?_
  refine cj_seq ?_
  refine cj_seq ?_
  refine cj_reg ?_
  refine lp rfl (p_mv rfl) ?_
  refine lp rfl (p_len Tryz.underlying22 rfl (.ro 0 rfl)) ?_
  refine lp rfl (p_mv rfl) ?_
  refine lj_seq ?_
  obtain ⟨f7, hf7, hm⟩ := bindS hm
  refine cj_range (γ := Unit) (m := (a0.length : Int)) hf7 () (fun u4 g5 => [(2, .int .i64 0), (3, .int .i64 0), (6, s0_.v)]) (fun u4 g5 => Sat w0 (keys ([] : List Ent)) A [.ro (RdS R3 (SV.v s0_) a0)]) ⟨rfl, rfl, rfl, rfl, rfl, trivial⟩ (fun _ h => h.picks [0] rfl) (nat_lt _) (fun _ h => (FactAt.get (F := RdS R3 (SV.v s0_) a0) (.ro 0 rfl) h).1) (fun _ _ => ⟨rfl, rfl, rfl, rfl⟩) ⟨rfl, rfl, rfl, rfl, rfl⟩ rfl rfl rfl (fun u4 g5 e => ?_) (fun aftk6 i1 x2 u4 g5 k6 hx3 hs J hJk6 hBk6 hX I cnk6 => ?_)
  · have hm := Flow.fin_b e hm
    refine nj_seq ?_
    refine cj_seq ?_
    refine cj_reg ?_
    refine lp rfl (p_mv rfl) ?_
    refine lp rfl (p_as rfl) ?_
    refine lj_seq ?_
    obtain rfl := Option.some.inj hm
    exact cj_rt () [] Tryz.results27 (.tmp rfl .nil) rfl rfl
  · have hRk6 : ∀ t, k6 = .ret t → some t = some r := fun t e => by rw [hX t e] at hm; exact hm
    have hm := hs
    refine cj_seq ?_
    refine cj_reg ?_
    refine lp rfl (p_idx Tryz.underlying22 ty3 rfl rfl (.ro 0 rfl) (getI_nat.trans hx3)) ?_
    refine lp rfl (p_lde (o := 0) ty3 rfl rfl (.ro 0 rfl) hx3 rfl) ?_
    refine lp rfl (p_as rfl) ?_
    refine lj_seq ?_
    refine cj_seq ?_
    refine cj_reg ?_
    refine lp rfl (p_mv rfl) ?_
    refine lp rfl (p_mv rfl) ?_
    refine lp rfl (p_neq rfl rfl) ?_
    refine lj_seq ?_
    refine cj_if (b := x2 != 0) rfl (fun hb => ?_) (fun hb => ?_)
    · have hm := ifB_t hb hm
      refine cj_seq ?_
      refine cj_reg ?_
      refine lp rfl (p_mv rfl) ?_
      refine lp rfl (p_as rfl) ?_
      refine lj_seq ?_
      have hm := hRk6 _ (Option.some.inj hm).symm
      obtain rfl := Option.some.inj hm
      exact cj_rt () [] Tryz.results27 (.tmp rfl .nil) rfl rfl
    · have hm := ifB_f hb hm
      refine cj_skip ?_
      refine nj_blk ?_
      exact cnk6 _ _ () () (hJk6 _ (Option.some.inj hm).symm) ⟨rfl, rfl, rfl, rfl, rfl, trivial⟩ (fun _ h => h.picks [0] rfl)
theorem ok_concert_Sung_1 (a0 : Tconcert_sung) (a1 : Tconcert_sung) {r : Int} (hm : m_concert_Sung_1 a0 a1 = some r) :
    Ctr Tryz.prog 26 [.agg (R62.enc a0).toArray, .agg (R62.enc a1).toArray].toArray ([] : List Ent) [] (X := Unit) (fun _ => .int .i64 r) (fun _ => []) := by
  unfold m_concert_Sung_1 at hm
  refine ctr_mk (vs := [(0, .agg (R62.enc a0).toArray), (1, .agg (R62.enc a1).toArray)]) Tryz.func26 rfl Tryz.ntmps26 rfl ⟨rfl, rfl, trivial⟩ (fun w0 A => ?_)
  refine cj_seq ?_
  refine cj_reg ?_
  refine r_bx (cs := [.string a0.part, .int .i64 a0.long_]) rfl rfl rfl (fun b1 => ?_)
  refine r_bx (cs := [.string a1.part, .int .i64 a1.long_]) rfl rfl rfl (fun b2 => ?_)
  refine lp rfl (p_as rfl) ?_
  refine lj_seq ?_
  refine cj_seq ?_
  obtain ⟨y3, hy3, hm⟩ := bindS hm
  obtain ⟨y4, hy4, hm⟩ := bindS hm
  obtain ⟨y6, hy6, hm⟩ := bindS hm
  refine cj_anyT [0, 1, 2, 3, 5, 6, 7, 8, 12] [] (Sat w0 (keys ([] : List Ent)) A [.box b2 62 [.string a1.part, .int .i64 a1.long_], .box b1 62 [.string a0.part, .int .i64 a0.long_]]) (Sat w0 (keys ([] : List Ent)) A [.box b2 62 [.string a1.part, .int .i64 a1.long_], .box b1 62 [.string a0.part, .int .i64 a0.long_]]) (by kernel_rfl) ?_
  refine at_take2 0 rfl (by kernel_rfl) (by kernel_rfl) (by kernel_rfl) (fun _ h => h.picks [0, 0] rfl) rfl rfl (p_fab fl62_1 rfl) (fun _ h => h.picks [0, 0] rfl) ?_
  refine at_take2 1 rfl (by kernel_rfl) (by kernel_rfl) (by kernel_rfl) (fun _ h => h.picks [0, 0] rfl) rfl rfl (p_lbs ty3 rfl (j := 0) rfl rfl) (fun _ h => h.picks [0, 0] rfl) ?_
  refine at_take2 2 rfl (by kernel_rfl) (by kernel_rfl) (by kernel_rfl) (fun _ h => h.picks [0, 0] rfl) rfl rfl (p_fab fl62_1 rfl) (fun _ h => h.picks [0, 0] rfl) ?_
  refine at_take2 3 rfl (by kernel_rfl) (by kernel_rfl) (by kernel_rfl) (fun _ h => h.picks [0, 0] rfl) rfl rfl (p_lbs ty3 rfl (j := 1) rfl rfl) (fun _ h => h.picks [0, 0] rfl) ?_
  refine at_take2 5 rfl (by kernel_rfl) (by kernel_rfl) (by kernel_rfl) (fun _ h => h.picks [0, 0] rfl) rfl rfl (p_fab fl62_0 rfl) (fun _ h => h.picks [0, 0] rfl) ?_
  refine at_take2 6 rfl (by kernel_rfl) (by kernel_rfl) (by kernel_rfl) (fun _ h => h.picks [0, 0] rfl) rfl rfl (p_lbs ty9 rfl (j := 1) rfl rfl) (fun _ h => h.picks [0, 0] rfl) ?_
  refine at_take2 7 rfl (by kernel_rfl) (by kernel_rfl) (by kernel_rfl) (fun _ h => h.picks [0, 0] rfl) rfl rfl (p_fab fl62_0 rfl) (fun _ h => h.picks [0, 0] rfl) ?_
  refine at_take2 8 rfl (by kernel_rfl) (by kernel_rfl) (by kernel_rfl) (fun _ h => h.picks [0, 0] rfl) rfl rfl (p_lbs ty9 rfl (j := 0) rfl rfl) (fun _ h => h.picks [0, 0] rfl) ?_
  refine at_each (rs := [4]) (by kernel_rfl) (by decide) ?_
  refine (.cons rfl (fun I cnI => ?_) .nil)
  · refine r_call [] cf28 rfl rfl (ok_cmp_Compare_int a1.long_ a0.long_ hy3) rfl rfl .nil (fun _ => rfl) rfl (fun _ => ?_)
    refine lj_nil ?_
    refine cnI _ _ (sof1 rfl rfl (fun _ h => h.picks [0, 0] rfl)) ?_
    refine at_each (rs := [9]) (by kernel_rfl) (by decide) ?_
    refine (.cons rfl (fun I cnI => ?_) .nil)
    · refine r_call [] cf29 rfl rfl (ok_strings_Compare a0.part a1.part hy4) rfl rfl .nil (fun _ => rfl) rfl (fun _ => ?_)
      refine lj_nil ?_
      refine cnI _ _ (sof1 rfl rfl (fun _ h => h.picks [0, 0] rfl)) ?_
      refine at_each (rs := [10]) (by kernel_rfl) (by decide) ?_
      refine (.cons rfl (fun I cnI => ?_) .nil)
      · refine r_bs R3 [y3, y4] rfl rfl rfl (fun _ => by kernel_rfl) rfl (fun s7 => ?_)
        refine lj_nil ?_
        refine cnI _ _ (sof1 rfl rfl (fun _ h => h.picks [1, 1] rfl)) ?_
        refine at_each (rs := [11]) (by kernel_rfl) (by decide) ?_
        refine (.cons rfl (fun I cnI => ?_) .nil)
        · refine r_call [] cf27 rfl rfl (ok_cmp_Or_int s7 [y3, y4] hy6) rfl rfl (.cons (.row 0 rfl) .nil) (fun _ => rfl) rfl (fun _ => ?_)
          refine lj_nil ?_
          refine cnI _ _ (sof1 rfl rfl (fun _ h => h.picks [1, 1] rfl)) ?_
          refine at_take2 12 rfl (by kernel_rfl) (by kernel_rfl) (by kernel_rfl) (fun _ h => h.picks [0, 0] rfl) rfl rfl (p_as rfl) (fun _ h => h.picks [1, 1] rfl) ?_
          refine at_done (by kernel_rfl) ?_
          refine nj_seq ?_
          obtain rfl := Option.some.inj hm
          exact cj_rt () [] Tryz.results26 (.tmp rfl .nil) rfl rfl
theorem ok_slices_insertionSortCmpFunc_concert_sung__concert_Sung_1 (s0_ : SV) (a0 : (List Tconcert_sung)) (a1 : Int) (a2 : Int) {r : (List Tconcert_sung)} (hm : m_slices_insertionSortCmpFunc_concert_sung__concert_Sung_1 a0 a1 a2 = some r) :
    Ctr Tryz.prog 69 [s0_.v, .int .i64 a1, .int .i64 a2, .func (.func 26) #[] [].toArray].toArray [.row R62 (SV.v s0_) a0] [] (X := Unit) (fun _ => .tuple [].toArray) (fun _ => [.row R62 (SV.v s0_) r]) := by
  unfold m_slices_insertionSortCmpFunc_concert_sung__concert_Sung_1 at hm
  refine ctr_mk (vs := [(0, s0_.v), (1, .int .i64 a1), (2, .int .i64 a2), (3, .func (.func 26) #[] [].toArray)]) Tryz.func69 rfl Tryz.ntmps69 rfl ⟨rfl, rfl, rfl, rfl, trivial⟩ (fun w0 A => ?_)
  refine cj_seq ?_
  refine cj_reg ?_
  refine lp rfl (p_mv rfl) ?_
  refine lp rfl (p_add rfl rfl) ?_
  refine lp rfl (p_as rfl) ?_
  refine lj_seq ?_
  obtain ⟨f4, hf4, hm⟩ := bindS hm
  refine cj_whileA (γ := Unit) hf4 () (fun u1 g2 => [(0, s0_.v), (1, .int .i64 a1), (2, .int .i64 a2), (3, .func (.func 26) #[] [].toArray), (8, .int .i64 u1.1)]) (fun u1 g2 => Sat w0 (keys [.row R62 (SV.v s0_) a0]) A [.row R62 (SV.v s0_) u1.2]) ⟨rfl, rfl, rfl, rfl, rfl, trivial⟩ (fun _ h => h.picks [0] rfl) (fun u1 g2 e => ?_) (fun aftk3 u1 g2 k3 hs J hJk3 hBk3 hX I cnk3 => ?_)
  · have hm := Flow.fin_b e hm
    obtain rfl := Option.some.inj hm
    exact nj_rt () [0] Tryz.results69 .nil rfl rfl
  · have hRk3 : ∀ t, k3 = .ret t → some t = some r := fun t e => by rw [hX t e] at hm; exact hm
    have hm := hs
    refine cj_seq ?_
    refine cj_seq ?_
    refine cj_reg ?_
    refine lp rfl (p_mv rfl) ?_
    refine lp rfl (p_mv rfl) ?_
    refine lp rfl (p_lss rfl rfl) ?_
    refine lj_seq ?_
    refine cj_if (b := decide (u1.1 < a2)) rfl (fun hb => ?_) (fun hb => ?_)
    · have hm := ifB_t hb hm
      refine cj_skip ?_
      refine nj_seq ?_
      refine cj_seq ?_
      refine cj_blk ?_
      refine cj_seq ?_
      refine cj_reg ?_
      refine lp rfl (p_mv rfl) ?_
      refine lp rfl (p_as rfl) ?_
      refine lj_seq ?_
      obtain ⟨f8, hf8, hm⟩ := bindS hm
      refine cj_whileA (γ := Unit) hf8 () (fun u5 g6 => [(0, s0_.v), (1, .int .i64 a1), (2, .int .i64 a2), (3, .func (.func 26) #[] [].toArray), (8, .int .i64 u1.1), (9, .int .i64 u5.1)]) (fun u5 g6 => Sat w0 (keys [.row R62 (SV.v s0_) a0]) A [.row R62 (SV.v s0_) u5.2]) ⟨rfl, rfl, rfl, rfl, rfl, rfl, trivial⟩ (fun _ h => h.picks [0] rfl) (fun u5 g6 e => ?_) (fun aftk7 u5 g6 k7 hs J hJk7 hBk7 hX I cnk7 => ?_)
      · have hm := Flow.fin_b e hm
        refine nj_blk ?_
        refine nj_seq ?_
        refine cj_reg ?_
        refine lp rfl (p_mv rfl) ?_
        refine lp rfl (p_add rfl rfl) ?_
        refine lp rfl (p_as rfl) ?_
        refine lj_nil ?_
        exact cnk3 _ _ (w64 (u1.1 + 1), u5.2) () (hJk3 _ (Option.some.inj hm).symm) ⟨rfl, rfl, rfl, rfl, rfl, trivial⟩ (fun _ h => h.picks [0] rfl)
      · have hRk7 : ∀ t, k7 = .ret t → some t = some k3 := fun t e => by rw [hX t e] at hm; exact hm
        have hm := hs
        refine cj_seq ?_
        refine cj_seq ?_
        refine cj_quiet (by kernel_rfl) (by kernel_rfl) ?_
        refine q_p rfl (p_mv rfl) ?_
        refine q_p rfl (p_mv rfl) ?_
        refine q_p rfl (p_gtr rfl rfl) ?_
        refine q_p rfl (p_mv rfl) ?_
        refine q_case (i := 21) (decide (u5.1 > a1)) rfl (fun hb => ?_) (fun hb => ?_)
        · have hm := ifB_t hb hm
          refine q_g true rfl rfl rfl ?_
          refine q_p rfl (p_mv rfl) ?_
          refine q_g true rfl rfl rfl ?_
          refine q_p rfl (p_mv rfl) ?_
          refine q_g true rfl rfl rfl ?_
          refine q_p rfl (p_mv rfl) ?_
          refine q_g true rfl rfl rfl ?_
          obtain ⟨e9, he9, hm⟩ := bindS hm
          refine q_p rfl (p_idx Tryz.underlying60 ty62 rfl rfl (.row 0 rfl) he9) ?_
          refine q_g true rfl rfl rfl ?_
          refine q_p rfl (p_lea ty62 rfl (.row 0 rfl) (getI_spec he9).2) ?_
          refine q_g true rfl rfl rfl ?_
          refine q_p rfl (p_mv rfl) ?_
          refine q_g true rfl rfl rfl ?_
          refine q_p rfl (p_mv rfl) ?_
          refine q_g true rfl rfl rfl ?_
          refine q_p rfl (p_sub rfl rfl) ?_
          refine q_g true rfl rfl rfl ?_
          obtain ⟨e10, he10, hm⟩ := bindS hm
          refine q_p rfl (p_idx Tryz.underlying60 ty62 rfl rfl (.row 0 rfl) he10) ?_
          refine q_g true rfl rfl rfl ?_
          refine q_p rfl (p_lea ty62 rfl (.row 0 rfl) (getI_spec he10).2) ?_
          refine q_g true rfl rfl rfl ?_
          obtain ⟨y11, hy11, hm⟩ := bindS hm
          refine q_call (.int .i64 y11) cf26 rfl rfl (ok_concert_Sung_1 e9 e10 hy11) .nil (fun _ => rfl) (fun _ => rfl) rfl ?_
          refine q_g true rfl rfl rfl ?_
          refine q_p rfl (p_lss rfl rfl) ?_
          refine q_p rfl (p_pkt rfl rfl) ?_
          refine q_nil ?_
          refine nj_seq ?_
          refine cj_if (b := decide (y11 < 0)) rfl (fun hb => ?_) (fun hb => ?_)
          · have hm := ifB_t hb hm
            refine cj_skip ?_
            refine nj_seq ?_
            refine cj_seq ?_
            refine cj_blk ?_
            refine cj_pure (F := RdS R62 (SV.v s0_) u5.2) (.row 0 rfl) (fun _ h => h.some_of (getI_spec he9).2) (fun hp16 => ?_)
            refine cj_pure (F := RdS R62 (SV.v s0_) u5.2) (.row 0 rfl) (fun _ h => h.pures) (fun hq17 => ?_)
            obtain ⟨e12, he12, hm⟩ := bindS hm
            obtain ⟨e13, he13, hm⟩ := bindS hm
            obtain ⟨e14, he14, hm⟩ := bindS hm
            obtain ⟨e15, he15, hm⟩ := bindS hm
            refine cj_anyT [0, 1, 2, 3, 4, 5, 6, 7, 8, 9, 10, 11, 13, 14] [15, 16, 17] (Sat w0 (keys [.row R62 (SV.v s0_) a0]) A [.row R62 (SV.v s0_) u5.2]) (Sat w0 (keys [.row R62 (SV.v s0_) a0]) A []) (by kernel_rfl) ?_
            refine at_take2 0 rfl (by kernel_rfl) (by kernel_rfl) (by kernel_rfl) (fun _ h => h.picks [] rfl) rfl rfl (p_mv rfl) (fun _ h => h.picks [] rfl) ?_
            refine at_take2 1 rfl (by kernel_rfl) (by kernel_rfl) (by kernel_rfl) (fun _ h => h.picks [] rfl) rfl rfl (p_mv rfl) (fun _ h => h.picks [] rfl) ?_
            refine at_take2 2 rfl (by kernel_rfl) (by kernel_rfl) (by kernel_rfl) (fun _ h => h.picks [] rfl) rfl rfl (p_mv rfl) (fun _ h => h.picks [] rfl) ?_
            refine at_take2 3 rfl (by kernel_rfl) (by kernel_rfl) (by kernel_rfl) (fun _ h => h.picks [] rfl) rfl rfl (p_mv rfl) (fun _ h => h.picks [] rfl) ?_
            refine at_take2 4 rfl (by kernel_rfl) (by kernel_rfl) (by kernel_rfl) (fun _ h => h.picks [] rfl) rfl rfl (p_sub rfl rfl) (fun _ h => h.picks [] rfl) ?_
            refine at_take2 5 rfl (by kernel_rfl) (by kernel_rfl) (by kernel_rfl) (fun _ h => h.picks [] rfl) rfl rfl (p_mv rfl) (fun _ h => h.picks [] rfl) ?_
            refine at_take2 6 rfl (by kernel_rfl) (by kernel_rfl) (by kernel_rfl) (fun _ h => h.picks [] rfl) rfl rfl (p_mv rfl) (fun _ h => h.picks [] rfl) ?_
            refine at_take2 7 rfl (by kernel_rfl) (by kernel_rfl) (by kernel_rfl) (fun _ h => h.picks [] rfl) rfl rfl (p_sub rfl rfl) (fun _ h => h.picks [] rfl) ?_
            refine at_take1 8 rfl (by kernel_rfl) (by kernel_rfl) (by kernel_rfl) (by kernel_rfl) rfl rfl (p_idxP (R := R62) Tryz.underlying60 ty62 rfl rfl hq17 he12) (fun _ h => h.picks [0] rfl) ?_
            refine at_take1 9 rfl (by kernel_rfl) (by kernel_rfl) (by kernel_rfl) (by kernel_rfl) rfl rfl (p_lea ty62 rfl (.row 0 rfl) (getI_spec he12).2) (fun _ h => h.picks [0] rfl) ?_
            refine at_take2 10 rfl (by kernel_rfl) (by kernel_rfl) (by kernel_rfl) (fun _ h => h.picks [] rfl) rfl rfl (p_mv rfl) (fun _ h => h.picks [] rfl) ?_
            refine at_take2 11 rfl (by kernel_rfl) (by kernel_rfl) (by kernel_rfl) (fun _ h => h.picks [] rfl) rfl rfl (p_mv rfl) (fun _ h => h.picks [] rfl) ?_
            refine at_each (rs := [12]) (by kernel_rfl) (by decide) ?_
            refine (.cons rfl (fun I cnI => ?_) .nil)
            · refine lp rfl (p_idxP (R := R62) Tryz.underlying60 ty62 rfl rfl hq17 he13) ?_
              refine lj_nil ?_
              refine cnI _ _ (sof1 rfl rfl (fun _ h => h.picks [0] rfl)) ?_
              refine at_take1 13 rfl (by kernel_rfl) (by kernel_rfl) (by kernel_rfl) (by kernel_rfl) rfl rfl (p_lea ty62 rfl (.row 0 rfl) (getI_spec he13).2) (fun _ h => h.picks [0] rfl) ?_
              refine at_take1 14 rfl (by kernel_rfl) (by kernel_rfl) (by kernel_rfl) (by kernel_rfl) rfl rfl (p_idxP (R := R62) Tryz.underlying60 ty62 rfl rfl hq17 he14) (fun _ h => h.picks [0] rfl) ?_
              refine at_each (rs := [15]) (by kernel_rfl) (by decide) ?_
              refine (.cons rfl (fun I cnI => ?_) .nil)
              · refine r_ste (k := 0) (o := 0) (vs := [.string e12.part, .int .i64 e12.long_]) ty62 rfl rfl rfl rfl rfl rfl rfl (getI_spec he14).2 e12 rfl rfl ?_
                refine lj_nil ?_
                refine cnI _ _ (sof2 rfl rfl (fun _ h => h.picks [] rfl)) ?_
                refine at_each (rs := [16]) (by kernel_rfl) (by decide) ?_
                refine (.cons rfl (fun I cnI => ?_) .nil)
                · refine lp rfl (p_idx Tryz.underlying60 ty62 rfl rfl (.row 0 rfl) he15) ?_
                  refine lj_nil ?_
                  refine cnI _ _ (sof2 rfl rfl (fun _ h => h.picks [] rfl)) ?_
                  refine at_each (rs := [17]) (by kernel_rfl) (by decide) ?_
                  refine (.cons rfl (fun I cnI => ?_) .nil)
                  · refine r_ste (k := 0) (o := 0) (vs := [.string e13.part, .int .i64 e13.long_]) ty62 rfl rfl rfl rfl rfl rfl rfl (getI_spec he15).2 e13 rfl rfl ?_
                    refine lj_nil ?_
                    refine cnI _ _ (sof2 rfl rfl (fun _ h => h.picks [] rfl)) ?_
                    refine at_done (by kernel_rfl) ?_
                    refine nj_blk ?_
                    refine nj_seq ?_
                    refine cj_reg ?_
                    refine lp rfl (p_mv rfl) ?_
                    refine lp rfl (p_sub rfl rfl) ?_
                    refine lp rfl (p_as rfl) ?_
                    refine lj_nil ?_
                    exact cnk7 _ _ (w64 (u5.1 - 1), ((u5.2.set u5.1.toNat e12).set ((w64 (u5.1 - 1)).toNat) e13)) () (hJk7 _ (Option.some.inj hm).symm) ⟨rfl, rfl, rfl, rfl, rfl, rfl, trivial⟩ (fun _ h => h.picks [0] rfl)
          · have hm := ifB_f hb hm
            refine cj_exit rfl ?_
            exact (aftk7 (u5.1, u5.2) () (hBk7 _ (Option.some.inj hm).symm)).sub ⟨rfl, rfl, rfl, rfl, rfl, rfl, trivial⟩ (fun _ h => h.picks [0] rfl)
        · have hm := ifB_f hb hm
          refine q_s true rfl rfl rfl rfl ?_
          refine q_s true rfl rfl rfl rfl ?_
          refine q_s true rfl rfl rfl rfl ?_
          refine q_s true rfl rfl rfl rfl ?_
          refine q_s true rfl rfl rfl rfl ?_
          refine q_s true rfl rfl rfl rfl ?_
          refine q_s true rfl rfl rfl rfl ?_
          refine q_s true rfl rfl rfl rfl ?_
          refine q_s true rfl rfl rfl rfl ?_
          refine q_s true rfl rfl rfl rfl ?_
          refine q_s true rfl rfl rfl rfl ?_
          refine q_s true rfl rfl rfl rfl ?_
          refine q_p rfl (p_pkf rfl rfl) ?_
          refine q_nil ?_
          refine nj_seq ?_
          refine cj_if_f rfl ?_
          refine cj_exit rfl ?_
          exact (aftk7 (u5.1, u5.2) () (hBk7 _ (Option.some.inj hm).symm)).sub ⟨rfl, rfl, rfl, rfl, rfl, rfl, trivial⟩ (fun _ h => h.picks [0] rfl)
    · have hm := ifB_f hb hm
      refine cj_exit rfl ?_
      exact (aftk3 (u1.1, u1.2) () (hBk3 _ (Option.some.inj hm).symm)).sub ⟨rfl, rfl, rfl, rfl, rfl, trivial⟩ (fun _ h => h.picks [0] rfl)
theorem ok_slices_pdqsortCmpFunc_concert_sung__concert_Sung_1 (s0_ : SV) (a0 : (List Tconcert_sung)) (a1 : Int) (a2 : Int) (a3 : Int) {r : (List Tconcert_sung)} (hm : m_slices_pdqsortCmpFunc_concert_sung__concert_Sung_1 a0 a1 a2 a3 = some r) :
    Ctr Tryz.prog 48 [s0_.v, .int .i64 a1, .int .i64 a2, .int .i64 a3, .func (.func 26) #[] [].toArray].toArray [.row R62 (SV.v s0_) a0] [] (X := Unit) (fun _ => .tuple [].toArray) (fun _ => [.row R62 (SV.v s0_) r]) := by
  unfold m_slices_pdqsortCmpFunc_concert_sung__concert_Sung_1 at hm
  refine ctr_mk (vs := [(0, s0_.v), (1, .int .i64 a1), (2, .int .i64 a2), (3, .int .i64 a3), (4, .func (.func 26) #[] [].toArray)]) Tryz.func48 rfl Tryz.ntmps48 rfl ⟨rfl, rfl, rfl, rfl, rfl, trivial⟩ (fun w0 A => ?_)
  refine cj_seq ?_
  refine cj_reg ?_
  refine lp rfl (p_as rfl) ?_
  refine lj_seq ?_
  refine cj_seq ?_
  refine cj_reg ?_
  refine lp rfl (p_as rfl) ?_
  refine lj_seq ?_
  obtain ⟨f4, hf4, hm⟩ := bindS hm
  refine cj_whileA (γ := Unit) hf4 () (fun u1 g2 => [(0, s0_.v), (1, .int .i64 a1), (2, .int .i64 a2), (3, .int .i64 a3), (4, .func (.func 26) #[] [].toArray), (10, .bool true), (11, .bool true)]) (fun u1 g2 => Sat w0 (keys [.row R62 (SV.v s0_) a0]) A [.row R62 (SV.v s0_) a0]) ⟨rfl, rfl, rfl, rfl, rfl, rfl, rfl, trivial⟩ (fun _ h => h.picks [0] rfl) (fun u1 g2 e => ?_) (fun aftk3 u1 g2 k3 hs J hJk3 hBk3 hX I cnk3 => ?_)
  · have hm := Flow.fin_b e hm
    obtain rfl := Option.some.inj hm
    exact nj_rt () [0] Tryz.results48 .nil rfl rfl
  · have hRk3 : ∀ t, k3 = .ret t → some t = some r := fun t e => by rw [hX t e] at hm; exact hm
    have hm := hs
    refine cj_blk ?_
    refine cj_seq ?_
    refine cj_reg ?_
    refine lp rfl (p_mv rfl) ?_
    refine lp rfl (p_mv rfl) ?_
    refine lp rfl (p_sub rfl rfl) ?_
    refine lp rfl (p_as rfl) ?_
    refine lj_seq ?_
    refine cj_seq ?_
    refine cj_seq ?_
    refine cj_reg ?_
    refine lp rfl (p_mv rfl) ?_
    refine lp rfl (p_leq rfl rfl) ?_
    refine lj_seq ?_
    refine cj_if (b := decide ((w64 (a2 - a1)) ≤ 12)) rfl (fun hb => ?_) (fun hb => ?_)
    · have hm := ifB_t hb hm
      refine cj_seq ?_
      refine cj_reg ?_
      refine lp rfl (p_mv rfl) ?_
      refine lp rfl (p_mv rfl) ?_
      refine lp rfl (p_mv rfl) ?_
      refine lp rfl (p_mv rfl) ?_
      obtain ⟨y5, hy5, hm⟩ := bindS hm
      refine r_call [0] cf69 rfl rfl (ok_slices_insertionSortCmpFunc_concert_sung__concert_Sung_1 s0_ a0 a1 a2 hy5) rfl rfl .nil (fun _ => rfl) rfl (fun _ => ?_)
      refine lj_seq ?_
      have hm := hRk3 _ (Option.some.inj hm).symm
      obtain rfl := Option.some.inj hm
      exact cj_rt () [0] Tryz.results48 .nil rfl rfl
    · have hm := ifB_f hb hm
      refine cj_skip ?_
      refine nj_seq ?_
      refine cj_seq ?_
      refine cj_seq ?_
      refine cj_reg ?_
      refine lp rfl (p_mv rfl) ?_
      refine lp rfl (p_eql rfl rfl) ?_
      refine lj_seq ?_
      refine cj_if (b := a3 == 0) rfl (fun hb => ?_) (fun hb => ?_)
      · have hm := ifB_t hb hm
        refine cj_seq ?_
        refine cj_reg ?_
        refine lp rfl (p_mv rfl) ?_
        refine lp rfl (p_mv rfl) ?_
        refine lp rfl (p_mv rfl) ?_
        refine lp rfl (p_mv rfl) ?_
        cases hm
      · have hm := ifB_f hb hm
        refine cj_skip ?_
        refine nj_seq ?_
        refine cj_seq ?_
        refine cj_seq ?_
        refine cj_reg ?_
        refine lp rfl (p_mv rfl) ?_
        refine lp rfl (p_not rfl) ?_
        refine lj_seq ?_
        obtain ⟨k8, hk8, hm⟩ := bindS hm
        have hRk8 : ∀ t, k8 = .inr t → some t = some k3 := fun t e => by rw [e] at hm; exact hm
        refine cj_joinK (σ := Unit) (γ := Unit) (fun u6 => k8 = .inl u6) (fun u6 g7 => [(0, s0_.v), (1, .int .i64 a1), (2, .int .i64 a2), (3, .int .i64 a3), (4, .func (.func 26) #[] [].toArray), (10, .bool true), (11, .bool true), (12, .int .i64 (w64 (a2 - a1)))]) (fun u6 g7 => Sat w0 (keys [.row R62 (SV.v s0_) a0]) A [.row R62 (SV.v s0_) a0]) (fun u6 g7 hq => ?_) (fun J cnk8 => ?_)
        · have hm := Sum.fin_l hq hm
          refine cj_seq ?_
          refine cj_reg ?_
          refine lp rfl (p_mv rfl) ?_
          refine lp rfl (p_mv rfl) ?_
          refine lp rfl (p_mv rfl) ?_
          refine lp rfl (p_mv rfl) ?_
          cases hm
        · have hm := hk8
          refine cj_if (b := !true) rfl (fun hb => ?_) (fun hb => ?_)
          · have hm := ifB_t hb hm
            refine cj_seq ?_
            refine cj_reg ?_
            refine lp rfl (p_mv rfl) ?_
            refine lp rfl (p_mv rfl) ?_
            refine lp rfl (p_mv rfl) ?_
            refine lp rfl (p_mv rfl) ?_
            cases hm
          · have hm := ifB_f hb hm
            refine cj_skip ?_
            exact cnk8 _ _ () () (Option.some.inj hm).symm ⟨rfl, rfl, rfl, rfl, rfl, rfl, rfl, rfl, trivial⟩ (fun _ h => h.picks [0] rfl)
theorem ok_slices_SortFunc_concert_sung_concert_sung__concert_Sung_1 (s0_ : SV) (a0 : (List Tconcert_sung)) {r : (List Tconcert_sung)} (hm : m_slices_SortFunc_concert_sung_concert_sung__concert_Sung_1 a0 = some r) :
    Ctr Tryz.prog 25 [s0_.v, .func (.func 26) #[] [].toArray].toArray [.row R62 (SV.v s0_) a0] [] (X := Unit) (fun _ => .tuple [].toArray) (fun _ => [.row R62 (SV.v s0_) r]) := by
  unfold m_slices_SortFunc_concert_sung_concert_sung__concert_Sung_1 at hm
  refine ctr_mk (vs := [(0, s0_.v), (1, .func (.func 26) #[] [].toArray)]) Tryz.func25 rfl Tryz.ntmps25 rfl ⟨rfl, rfl, trivial⟩ (fun w0 A => ?_)
  refine cj_seq ?_
  refine cj_reg ?_
  refine lp rfl (p_mv rfl) ?_
  refine lp rfl (p_len Tryz.underlying60 rfl (.row 0 rfl)) ?_
  refine lp rfl (p_as rfl) ?_
  refine lj_seq ?_
  refine cj_reg ?_
  refine lp rfl (p_mv rfl) ?_
  refine lp rfl (p_mv rfl) ?_
  refine lp rfl (p_mv rfl) ?_
  refine lp rfl (p_cvi Tryz.underlying3 Tryz.underlying86 rfl) ?_
  obtain ⟨y1, hy1, hm⟩ := bindS hm
  refine r_call [] cf49 rfl rfl (ok_bits_Len (IntKind.wrap .u64 (a0.length : Int)) hy1) rfl rfl .nil (fun _ => rfl) rfl (fun _ => ?_)
  refine lp rfl (p_mv rfl) ?_
  obtain ⟨y2, hy2, hm⟩ := bindS hm
  refine r_call [0] cf48 rfl rfl (ok_slices_pdqsortCmpFunc_concert_sung__concert_Sung_1 s0_ a0 0 (a0.length : Int) y1 hy2) rfl rfl .nil (fun _ => rfl) rfl (fun _ => ?_)
  refine lj_nil ?_
  obtain rfl := Option.some.inj hm
  exact nj_rt () [0] Tryz.results25 .nil rfl rfl
theorem ok_concert_Sung (a0 : TProgram) (s0_0_ : SV) (xg0_0_ : List (TItem × SV)) {r : (List TPair) × Int} (hm : m_concert_Sung a0 = some r) :
    Ctr Tryz.prog 7 [.agg [s0_0_.v, .int .i64 a0.Change, .int .i64 a0.Clap, .int .i64 a0.Break, .int .i64 a0.Half].toArray].toArray ([] : List Ent) [Lk N57 a0.Items xg0_0_, RdS N57.R (SV.v s0_0_) xg0_0_, PowT] (X := SV) (fun s => .tuple [s.v, .int .i64 r.2].toArray) (fun s => [.row R48 (SV.v s) r.1]) := by
  unfold m_concert_Sung at hm
  refine ctr_mk (vs := [(0, .agg [s0_0_.v, .int .i64 a0.Change, .int .i64 a0.Clap, .int .i64 a0.Break, .int .i64 a0.Half].toArray)]) Tryz.func7 rfl Tryz.ntmps7 rfl ⟨rfl, trivial⟩ (fun w0 A => ?_)
  refine cj_pure (F := Lk N57 a0.Items xg0_0_) (.ro 0 rfl) (fun _ h => h.1) (fun hL0_0_ => ?_)
  refine cj_seq ?_
  refine cj_reg ?_
  refine r_bx (cs := [s0_0_.v, .int .i64 a0.Change, .int .i64 a0.Clap, .int .i64 a0.Break, .int .i64 a0.Half]) rfl rfl rfl (fun b1 => ?_)
  refine lp rfl (p_as rfl) ?_
  refine lp rfl (p_as rfl) ?_
  refine lj_seq ?_
  refine cj_seq ?_
  refine cj_seq ?_
  refine cj_reg ?_
  refine lp rfl (p_lbw ty28 rfl (j := 0) rfl rfl) ?_
  obtain ⟨y2, hy2, hm⟩ := bindS hm
  refine r_call [] cf24 rfl rfl (ok_concert_CheckProgram a0 s0_0_ xg0_0_ hy2) rfl rfl (.cons (.ro 1 rfl) (.cons (.ro 2 rfl) .nil)) (fun _ => rfl) rfl (fun _ => ?_)
  refine lp rfl (p_as rfl) ?_
  refine lj_seq ?_
  refine cj_seq ?_
  refine cj_reg ?_
  refine lp rfl (p_mv rfl) ?_
  refine lp rfl (p_neq rfl rfl) ?_
  refine lj_seq ?_
  refine cj_if (b := y2 != 0) rfl (fun hb => ?_) (fun hb => ?_)
  · have hm := ifB_t hb hm
    refine cj_seq ?_
    refine cj_reg ?_
    refine lp rfl (p_mv rfl) ?_
    refine lp rfl (p_as rfl) ?_
    refine lp rfl (p_as rfl) ?_
    refine lj_seq ?_
    obtain rfl := Option.some.inj hm
    refine cj_nil R48 ?_
    exact cj_rt nilS [0] Tryz.results7 (.tmp rfl (.tmp rfl .nil)) rfl rfl
  · have hm := ifB_f hb hm
    refine cj_skip ?_
    refine nj_seq ?_
    refine cj_seq ?_
    refine cj_reg ?_
    refine r_mkmap kv9 vv3 rfl (fun b4 => ?_)
    refine lp rfl (p_as rfl) ?_
    refine lj_seq ?_
    refine cj_seq ?_
    refine cj_seq ?_
    refine cj_reg ?_
    refine lp rfl (p_fab fl28_0 rfl) ?_
    refine lp rfl (p_lbs ty26 rfl (j := 1) rfl rfl) ?_
    refine lp rfl (p_lenG hL0_0_ Tryz.underlying26 rfl (.ro 3 rfl)) ?_
    refine lp rfl (p_mv rfl) ?_
    refine lj_seq ?_
    obtain ⟨f11, hf11, hm⟩ := bindS hm
    refine cj_range (γ := (Array MapEntry × Nat)) (m := (a0.Items.length : Int)) hf11 (#[], 0) (fun u8 g9 => [(2, .slice none 0 0), (3, .int .i64 0), (5, .map (some b4)), (23, s0_0_.v)]) (fun u8 g9 => Sat w0 (keys ([] : List Ent)) A [.obj (mapO kv9 b4 (mpV vv3 u8) g9.1 g9.2), .ro (Lk N57 a0.Items xg0_0_), .ro (RdS N57.R (SV.v s0_0_) xg0_0_), .ro PowT]) ⟨rfl, rfl, rfl, rfl, rfl, rfl, trivial⟩ (fun _ h => h.picks [0, 1, 1, 1] rfl) (nat_lt _) (fun _ h => by have h1 := (FactAt.get (F := RdS N57.R (SV.v s0_0_) xg0_0_) (.ro 3 rfl) h).1; rw [lk_len hL0_0_] at h1; exact h1) (fun _ _ => ⟨rfl, rfl, rfl, rfl⟩) ⟨rfl, rfl, rfl, rfl, rfl⟩ rfl rfl rfl (fun u8 g9 e => ?_) (fun aftk10 i5 x6 u8 g9 k10 hx7 hs J hJk10 hBk10 hX I cnk10 => ?_)
    · have hm := Flow.fin_b e hm
      refine nj_seq ?_
      refine cj_seq ?_
      refine cj_reg ?_
      refine lp rfl (p_as rfl) ?_
      refine lj_seq ?_
      refine cj_seq ?_
      refine cj_seq ?_
      refine cj_reg ?_
      refine lp rfl (p_mv rfl) ?_
      refine r_rng (vv := vv3) Tryz.underlying59 (.map 0 rfl) rfl rfl (fun b22 hrb23 => ?_)
      refine lj_seq ?_
      refine cj_nil R62 ?_
      have hsq := anyOrd_spec hm
      refine cj_mrange (γ := SV) (fun L hL => hsq L hL) hrb23 nilS (fun u30 g31 => [(2, .slice none 0 0), (3, .int .i64 0), (10, g31.v)]) (fun u30 g31 => [.obj (mapO kv9 b4 (mpV vv3 u8) g9.1 g9.2), .ro PowT, .row R62 (SV.v g31) u30]) ⟨rfl, rfl, rfl, rfl, trivial⟩ (fun _ h => h.picks [1, 1, 3, 0] rfl) (fun _ _ => (.map 0 rfl)) (fun _ _ => ⟨rfl, rfl, rfl⟩) ⟨rfl, rfl, rfl⟩ rfl rfl (fun u30 g31 e => ?_) (fun aftk32 i24 x25 u30 g31 idx28 ix27 k32 hx26 hs J hJk32 hBk32 hX I cnk32 => ?_)
      · have hm := Flow.fin_b (f := .brk u30) rfl e
        refine nj_seq ?_
        refine cj_seq ?_
        refine cj_reg ?_
        refine lp rfl (p_mv rfl) ?_
        obtain ⟨y39, hy39, hm⟩ := bindS hm
        refine r_call [2] cf25 rfl rfl (ok_slices_SortFunc_concert_sung_concert_sung__concert_Sung_1 g31 u30 hy39) rfl rfl .nil (fun _ => rfl) rfl (fun _ => ?_)
        refine lj_seq ?_
        refine cj_seq ?_
        refine cj_reg ?_
        refine lp rfl (p_as rfl) ?_
        refine lj_seq ?_
        refine cj_seq ?_
        refine cj_seq ?_
        refine cj_reg ?_
        refine lp rfl (p_mv rfl) ?_
        refine lp rfl (p_len Tryz.underlying60 rfl (.row 0 rfl)) ?_
        refine lp rfl (p_mv rfl) ?_
        refine lj_seq ?_
        refine cj_nil R48 ?_
        obtain ⟨f47, hf47, hm⟩ := bindS hm
        refine cj_range (γ := SV) (m := (y39.length : Int)) hf47 nilS (fun u44 g45 => [(2, .slice none 0 0), (3, .int .i64 0), (13, g45.v), (59, g31.v)]) (fun u44 g45 => Sat w0 (keys ([] : List Ent)) A [.row R62 (SV.v g31) y39, .obj (mapO kv9 b4 (mpV vv3 u8) g9.1 g9.2), .ro PowT, .row R48 (SV.v g45) u44]) ⟨rfl, rfl, rfl, rfl, rfl, rfl, trivial⟩ (fun _ h => h.picks [1, 1, 1, 0] rfl) (nat_lt _) (fun _ h => (FactAt.get (F := RdS R62 (SV.v g31) y39) (.row 1 rfl) h).1) (fun _ _ => ⟨rfl, rfl, rfl, rfl⟩) ⟨rfl, rfl, rfl, rfl, rfl⟩ rfl rfl rfl (fun u44 g45 e => ?_) (fun aftk46 i40 x41 u44 g45 k46 hx42 hs J hJk46 hBk46 hX I cnk46 => ?_)
        · have hm := Flow.fin_b e hm
          refine nj_seq ?_
          refine cj_seq ?_
          refine cj_reg ?_
          refine lp rfl (p_mv rfl) ?_
          refine lp rfl (p_as rfl) ?_
          refine lp rfl (p_as rfl) ?_
          refine lj_seq ?_
          obtain rfl := Option.some.inj hm
          exact cj_rt g45 [3] Tryz.results7 (.tmp rfl (.tmp rfl .nil)) rfl rfl
        · have hRk46 : ∀ t, k46 = .ret t → some t = some r := fun t e => by rw [hX t e] at hm; exact hm
          have hm := hs
          refine cj_seq ?_
          refine cj_reg ?_
          refine lp rfl (p_idx Tryz.underlying60 ty62 rfl rfl (.row 0 rfl) (getI_nat.trans hx42)) ?_
          refine lp rfl (p_lea ty62 rfl (.row 0 rfl) hx42) ?_
          refine r_al ty62 rfl (fun b49 => ?_)
          refine r_sb (vs := [.string x41.part, .int .i64 x41.long_]) (j := 0) ty62 rfl rfl rfl rfl rfl rfl rfl ?_
          refine lj_seq ?_
          refine cj_pure (F := RdS R48 (SV.v g45) u44) (.row 4 rfl) (fun _ h => h.pures) (fun hq54 => ?_)
          obtain ⟨y50, hy50, hm⟩ := bindS hm
          obtain ⟨q52, hq52, hm⟩ := bindS hm
          refine cj_anyT [0, 1, 2, 3, 4, 6, 9] [] (Sat w0 (keys ([] : List Ent)) A [.box b49 62 [.string x41.part, .int .i64 x41.long_], .row R62 (SV.v g31) y39, .obj (mapO kv9 b4 (mpV vv3 u8) g9.1 g9.2), .ro PowT]) (Sat w0 (keys ([] : List Ent)) A [.box b49 62 [.string x41.part, .int .i64 x41.long_], .row R62 (SV.v g31) y39, .obj (mapO kv9 b4 (mpV vv3 u8) g9.1 g9.2), .ro PowT]) (by kernel_rfl) ?_
          refine at_take2 0 rfl (by kernel_rfl) (by kernel_rfl) (by kernel_rfl) (fun _ h => h.picks [0, 0, 0, 0] rfl) rfl rfl (p_mv rfl) (fun _ h => h.picks [0, 0, 0, 0] rfl) ?_
          refine at_take2 1 rfl (by kernel_rfl) (by kernel_rfl) (by kernel_rfl) (fun _ h => h.picks [0, 0, 0, 0] rfl) rfl rfl (p_fab fl62_0 rfl) (fun _ h => h.picks [0, 0, 0, 0] rfl) ?_
          refine at_take2 2 rfl (by kernel_rfl) (by kernel_rfl) (by kernel_rfl) (fun _ h => h.picks [0, 0, 0, 0] rfl) rfl rfl (p_lbs ty9 rfl (j := 0) rfl rfl) (fun _ h => h.picks [0, 0, 0, 0] rfl) ?_
          refine at_take2 3 rfl (by kernel_rfl) (by kernel_rfl) (by kernel_rfl) (fun _ h => h.picks [0, 0, 0, 0] rfl) rfl rfl (p_fab fl62_1 rfl) (fun _ h => h.picks [0, 0, 0, 0] rfl) ?_
          refine at_take2 4 rfl (by kernel_rfl) (by kernel_rfl) (by kernel_rfl) (fun _ h => h.picks [0, 0, 0, 0] rfl) rfl rfl (p_lbs ty3 rfl (j := 0) rfl rfl) (fun _ h => h.picks [0, 0, 0, 0] rfl) ?_
          refine at_each (rs := [5]) (by kernel_rfl) (by decide) ?_
          refine (.cons rfl (fun I cnI => ?_) .nil)
          · refine r_call [] cf30 rfl rfl (ok_strconv_Itoa x41.long_ hy50) rfl rfl (.cons (.ro 3 rfl) .nil) (fun _ => rfl) rfl (fun _ => ?_)
            refine lj_nil ?_
            refine cnI _ _ (sof1 rfl rfl (fun _ h => h.picks [0, 0, 0, 0] rfl)) ?_
            refine at_take2 6 rfl (by kernel_rfl) (by kernel_rfl) (by kernel_rfl) (fun _ h => h.picks [0, 0, 0, 0] rfl) rfl rfl (p_bld [.string x41.part, .string y50] rfl (fun _ => by kernel_rfl)) (fun _ h => h.picks [0, 0, 0, 0] rfl) ?_
            refine at_each (rs := [7]) (by kernel_rfl) (by decide) ?_
            refine (.cons rfl (fun I cnI => ?_) .nil)
            · refine r_bs R48 [(TPair.mk x41.part y50)] rfl rfl rfl (fun _ => by kernel_rfl) rfl (fun s55 => ?_)
              refine lj_nil ?_
              refine cnI _ _ (sof1 rfl rfl (fun _ h => h.picks [1, 1, 1, 1] rfl)) ?_
              refine at_each (rs := [8]) (by kernel_rfl) (by decide) ?_
              refine (.cons rfl (fun I cnI => ?_) .nil)
              · refine r_app (k := 5) Tryz.underlying32 ty48 rfl rfl rfl rfl (.row 0 rfl) hq52 rfl (fun s56 => ?_)
                refine lj_nil ?_
                refine cnI _ _ (sof1 rfl rfl (fun _ h => h.picks [1, 1, 1, 1] rfl)) ?_
                refine at_take2 9 rfl (by kernel_rfl) (by kernel_rfl) (by kernel_rfl) (fun _ h => h.picks [0, 0, 0, 0] rfl) rfl rfl (p_as rfl) (fun _ h => h.picks [1, 1, 1, 1] rfl) ?_
                refine at_done (by kernel_rfl) ?_
                refine nj_blk ?_
                exact cnk46 _ _ q52 s56 (hJk46 _ (Option.some.inj hm).symm) ⟨rfl, rfl, rfl, rfl, rfl, rfl, trivial⟩ (fun _ h => h.picks [2, 2, 2, 2] rfl)
      · have hRk32 : ∀ t, k32 = .ret t → some t = some r := fun t e => hX t e
        have hm := hs
        refine cj_seq ?_
        refine cj_reg ?_
        refine lp rfl (p_ent (kk := x25.1) (v := x25.2) (vv := vv3) (k := 0) (.map 1 rfl) rfl hx26 rfl) ?_
        refine lp rfl (p_ext rfl rfl) ?_
        refine lp rfl (p_ext rfl rfl) ?_
        refine lp rfl (p_as rfl) ?_
        refine lp rfl (p_as rfl) ?_
        refine lj_seq ?_
        refine cj_reg ?_
        refine lp rfl (p_mv rfl) ?_
        refine lp rfl (p_mv rfl) ?_
        refine lp rfl (p_mv rfl) ?_
        refine lp rfl (p_bld [.string x25.1, .int .i64 x25.2] rfl (fun _ => by kernel_rfl)) ?_
        refine r_bs R62 [(Tconcert_sung.mk x25.1 x25.2)] rfl rfl rfl (fun _ => by kernel_rfl) rfl (fun s35 => ?_)
        obtain ⟨q36, hq36, hm⟩ := bindS hm
        refine r_app (k := 4) Tryz.underlying60 ty62 rfl rfl rfl rfl (.row 0 rfl) hq36 rfl (fun s37 => ?_)
        refine lp rfl (p_as rfl) ?_
        refine lj_nil ?_
        refine nj_blk ?_
        exact cnk32 _ _ q36 s37 (hJk32 _ (Option.some.inj hm).symm) ⟨rfl, rfl, rfl, rfl, trivial⟩ (fun _ h => h.picks [1, 1, 1, 1] rfl)
    · have hRk10 : ∀ t, k10 = .ret t → some t = some r := fun t e => by rw [hX t e] at hm; exact hm
      have hm := hs
      refine cj_seq ?_
      refine cj_reg ?_
      obtain ⟨gx6, hx7G⟩ := lk_get hL0_0_ hx7
      refine lp rfl (p_idx Tryz.underlying26 ty57 rfl rfl (.ro 2 rfl) (getI_nat.trans hx7G)) ?_
      refine lp rfl (p_leaN (cs := [.string x6.Key, .string x6.Places, .int .i64 x6.Long, gx6.v]) ty57 rfl (.ro 2 rfl) hx7G rfl) ?_
      refine r_al ty57 rfl (fun b12 => ?_)
      refine r_sb (vs := [.string x6.Key, .string x6.Places, .int .i64 x6.Long, gx6.v]) (j := 0) ty57 rfl rfl rfl rfl rfl rfl rfl ?_
      refine lj_seq ?_
      refine cj_seq ?_
      refine cj_reg ?_
      refine lp rfl (p_fab fl57_3 rfl) ?_
      refine lp rfl (p_lbs ty55 rfl (j := 0) rfl rfl) ?_
      refine lp rfl (p_len Tryz.underlying55 rfl (.imp (.ro 2 rfl) (fun _ h => (Lk.at_ h hx7G)))) ?_
      refine lp rfl (p_mv rfl) ?_
      refine lj_seq ?_
      obtain ⟨f19, hf19, hm⟩ := bindS hm
      refine cj_range (γ := (Array MapEntry × Nat)) (m := (x6.Parts.length : Int)) hf19 (g9.1, g9.2) (fun u16 g17 => [(2, .slice none 0 0), (3, .int .i64 0), (5, .map (some b4)), (7, .pointer (some ⟨b12, 0, none⟩)), (23, s0_0_.v), (24, .int .i64 (a0.Items.length : Int)), (25, .int .i64 (i5 : Int)), (30, gx6.v)]) (fun u16 g17 => Sat w0 (keys ([] : List Ent)) A [.box b12 57 [.string x6.Key, .string x6.Places, .int .i64 x6.Long, gx6.v], .obj (mapO kv9 b4 (mpV vv3 u16) g17.1 g17.2), .ro (Lk N57 a0.Items xg0_0_), .ro (RdS N57.R (SV.v s0_0_) xg0_0_), .ro PowT]) ⟨rfl, rfl, rfl, rfl, rfl, rfl, rfl, rfl, rfl, rfl, trivial⟩ (fun _ h => h.picks [0, 0, 0, 0, 0] rfl) (nat_lt _) (fun _ h => (FactAt.get (F := RdS R9 (SV.v gx6) x6.Parts) (.imp (.ro 2 rfl) (fun _ h => (Lk.at_ h hx7G))) h).1) (fun _ _ => ⟨rfl, rfl, rfl, rfl⟩) ⟨rfl, rfl, rfl, rfl, rfl⟩ rfl rfl rfl (fun u16 g17 e => ?_) (fun aftk18 i13 x14 u16 g17 k18 hx15 hs J hJk18 hBk18 hX I cnk18 => ?_)
      · have hm := Flow.fin_b e hm
        refine nj_blk ?_
        exact cnk10 _ _ u16 (g17.1, g17.2) (hJk10 _ (Option.some.inj hm).symm) ⟨rfl, rfl, rfl, rfl, rfl, rfl, trivial⟩ (fun _ h => h.picks [1, 1, 1, 1] rfl)
      · have hRk18 : ∀ t, k18 = .ret t → some t = some k10 := fun t e => by rw [hX t e] at hm; exact hm
        have hm := hs
        refine cj_seq ?_
        refine cj_reg ?_
        refine lp rfl (p_idx Tryz.underlying55 ty9 rfl rfl (.imp (.ro 2 rfl) (fun _ h => (Lk.at_ h hx7G))) (getI_nat.trans hx15)) ?_
        refine lp rfl (p_lde (o := 0) ty9 rfl rfl (.imp (.ro 2 rfl) (fun _ h => (Lk.at_ h hx7G))) hx15 rfl) ?_
        refine lp rfl (p_as rfl) ?_
        refine lj_seq ?_
        refine cj_reg ?_
        refine lp rfl (p_mv rfl) ?_
        refine lp rfl (p_mv rfl) ?_
        refine lp rfl (p_lkm (vv := vv3) (k := x14) (z := 0) Tryz.underlying59 (keyF9) (fun _ => by kernel_rfl) (.map 1 rfl) rfl rfl) ?_
        refine lp rfl (p_fab fl57_2 rfl) ?_
        refine lp rfl (p_lbs ty3 rfl (j := 0) rfl rfl) ?_
        refine lp rfl (p_add rfl rfl) ?_
        refine r_mpu (j := 1) (vv := vv3) (k := x14) (v := (w64 (((lkM u16 x14).getD 0) + x6.Long))) Tryz.underlying59 keyF9 rfl rfl rfl rfl (fun es20 cl21 => ?_)
        refine lj_nil ?_
        refine nj_blk ?_
        exact cnk18 _ _ (putM u16 x14 (w64 (((lkM u16 x14).getD 0) + x6.Long))) (es20, cl21) (hJk18 _ (Option.some.inj hm).symm) ⟨rfl, rfl, rfl, rfl, rfl, rfl, rfl, rfl, rfl, rfl, trivial⟩ (fun _ h => h.picks [0, 0, 0, 0, 0] rfl)
theorem ok_slices_Index_string_string (s0_ : SV) (a0 : (List ByteArray)) (a1 : ByteArray) {r : Int} (hm : m_slices_Index_string_string a0 a1 = some r) :
    Ctr Tryz.prog 55 [s0_.v, .string a1].toArray ([] : List Ent) [RdS R9 (SV.v s0_) a0] (X := Unit) (fun _ => .int .i64 r) (fun _ => []) := by
  unfold m_slices_Index_string_string at hm
  refine ctr_mk (vs := [(0, s0_.v), (1, .string a1)]) Tryz.func55 rfl Tryz.ntmps55 rfl ⟨rfl, rfl, trivial⟩ (fun w0 A => ?_)
  refine cj_seq ?_
  refine cj_reg ?_
  refine lp rfl (p_as rfl) ?_
  refine lj_seq ?_
  refine cj_seq ?_
  refine cj_seq ?_
  refine cj_reg ?_
  refine lp rfl (p_mv rfl) ?_
  refine lp rfl (p_len Tryz.underlying55 rfl (.ro 0 rfl)) ?_
  refine lp rfl (p_mv rfl) ?_
  refine lj_seq ?_
  obtain ⟨f7, hf7, hm⟩ := bindS hm
  refine cj_range (γ := Unit) (m := (a0.length : Int)) hf7 () (fun u4 g5 => [(0, s0_.v), (1, .string a1), (4, .int .i64 0)]) (fun u4 g5 => Sat w0 (keys ([] : List Ent)) A [.ro (RdS R9 (SV.v s0_) a0)]) ⟨rfl, rfl, rfl, rfl, rfl, trivial⟩ (fun _ h => h.picks [0] rfl) (nat_lt _) (fun _ h => (FactAt.get (F := RdS R9 (SV.v s0_) a0) (.ro 0 rfl) h).1) (fun _ _ => ⟨rfl, rfl, rfl, rfl⟩) ⟨rfl, rfl, rfl, rfl, rfl⟩ rfl rfl rfl (fun u4 g5 e => ?_) (fun aftk6 i1 x2 u4 g5 k6 hx3 hs J hJk6 hBk6 hX I cnk6 => ?_)
  · have hm := Flow.fin_b e hm
    refine nj_seq ?_
    refine cj_seq ?_
    refine cj_reg ?_
    refine lp rfl (p_as rfl) ?_
    refine lj_seq ?_
    obtain rfl := Option.some.inj hm
    exact cj_rt () [] Tryz.results55 (.tmp rfl .nil) rfl rfl
  · have hRk6 : ∀ t, k6 = .ret t → some t = some r := fun t e => by rw [hX t e] at hm; exact hm
    have hm := hs
    refine cj_seq ?_
    refine cj_reg ?_
    refine lp rfl (p_mv rfl) ?_
    refine lp rfl (p_as rfl) ?_
    refine lj_seq ?_
    refine cj_seq ?_
    refine cj_reg ?_
    refine lp rfl (p_mv rfl) ?_
    refine lp rfl (p_mv rfl) ?_
    refine lp rfl (p_mv rfl) ?_
    refine lp rfl (p_idx Tryz.underlying55 ty9 rfl rfl (.ro 0 rfl) (getI_nat.trans hx3)) ?_
    refine lp rfl (p_lde (o := 0) ty9 rfl rfl (.ro 0 rfl) hx3 rfl) ?_
    refine lp rfl (p_eqs rfl rfl) ?_
    refine lj_seq ?_
    refine cj_if (b := a1.toList == x2.toList) rfl (fun hb => ?_) (fun hb => ?_)
    · have hm := ifB_t hb hm
      refine cj_seq ?_
      refine cj_reg ?_
      refine lp rfl (p_mv rfl) ?_
      refine lp rfl (p_as rfl) ?_
      refine lj_seq ?_
      have hm := hRk6 _ (Option.some.inj hm).symm
      obtain rfl := Option.some.inj hm
      exact cj_rt () [] Tryz.results55 (.tmp rfl .nil) rfl rfl
    · have hm := ifB_f hb hm
      refine cj_skip ?_
      refine nj_blk ?_
      exact cnk6 _ _ () () (hJk6 _ (Option.some.inj hm).symm) ⟨rfl, rfl, rfl, rfl, rfl, trivial⟩ (fun _ h => h.picks [0] rfl)
theorem ok_slices_Contains_string_string (s0_ : SV) (a0 : (List ByteArray)) (a1 : ByteArray) {r : Bool} (hm : m_slices_Contains_string_string a0 a1 = some r) :
    Ctr Tryz.prog 32 [s0_.v, .string a1].toArray ([] : List Ent) [RdS R9 (SV.v s0_) a0] (X := Unit) (fun _ => .bool r) (fun _ => []) := by
  unfold m_slices_Contains_string_string at hm
  refine ctr_mk (vs := [(0, s0_.v), (1, .string a1)]) Tryz.func32 rfl Tryz.ntmps32 rfl ⟨rfl, rfl, trivial⟩ (fun w0 A => ?_)
  refine cj_seq ?_
  refine cj_reg ?_
  refine lp rfl (p_as rfl) ?_
  refine lj_seq ?_
  refine cj_seq ?_
  refine cj_reg ?_
  refine lp rfl (p_mv rfl) ?_
  refine lp rfl (p_mv rfl) ?_
  obtain ⟨y1, hy1, hm⟩ := bindS hm
  refine r_call [] cf55 rfl rfl (ok_slices_Index_string_string s0_ a0 a1 hy1) rfl rfl (.cons (.ro 0 rfl) .nil) (fun _ => rfl) rfl (fun _ => ?_)
  refine lp rfl (p_geq rfl rfl) ?_
  refine lp rfl (p_as rfl) ?_
  refine lj_seq ?_
  obtain rfl := Option.some.inj hm
  exact cj_rt () [] Tryz.results32 (.tmp rfl .nil) rfl rfl
theorem ok_concert_Longest (a0 : TProgram) (s0_0_ : SV) (xg0_0_ : List (TItem × SV)) (a1 : ByteArray) {r : Int × Int} (hm : m_concert_Longest a0 a1 = some r) :
    Ctr Tryz.prog 8 [.agg [s0_0_.v, .int .i64 a0.Change, .int .i64 a0.Clap, .int .i64 a0.Break, .int .i64 a0.Half].toArray, .string a1].toArray ([] : List Ent) [Lk N57 a0.Items xg0_0_, RdS N57.R (SV.v s0_0_) xg0_0_] (X := Unit) (fun _ => .tuple [.int .i64 r.1, .int .i64 r.2].toArray) (fun _ => []) := by
  unfold m_concert_Longest at hm
  refine ctr_mk (vs := [(0, .agg [s0_0_.v, .int .i64 a0.Change, .int .i64 a0.Clap, .int .i64 a0.Break, .int .i64 a0.Half].toArray), (1, .string a1)]) Tryz.func8 rfl Tryz.ntmps8 rfl ⟨rfl, rfl, trivial⟩ (fun w0 A => ?_)
  refine cj_pure (F := Lk N57 a0.Items xg0_0_) (.ro 0 rfl) (fun _ h => h.1) (fun hL0_0_ => ?_)
  refine cj_seq ?_
  refine cj_reg ?_
  refine r_bx (cs := [s0_0_.v, .int .i64 a0.Change, .int .i64 a0.Clap, .int .i64 a0.Break, .int .i64 a0.Half]) rfl rfl rfl (fun b1 => ?_)
  refine lp rfl (p_as rfl) ?_
  refine lp rfl (p_as rfl) ?_
  refine lj_seq ?_
  refine cj_seq ?_
  refine cj_seq ?_
  refine cj_reg ?_
  refine lp rfl (p_lbw ty28 rfl (j := 0) rfl rfl) ?_
  obtain ⟨y2, hy2, hm⟩ := bindS hm
  refine r_call [] cf24 rfl rfl (ok_concert_CheckProgram a0 s0_0_ xg0_0_ hy2) rfl rfl (.cons (.ro 1 rfl) (.cons (.ro 2 rfl) .nil)) (fun _ => rfl) rfl (fun _ => ?_)
  refine lp rfl (p_as rfl) ?_
  refine lj_seq ?_
  refine cj_seq ?_
  refine cj_reg ?_
  refine lp rfl (p_mv rfl) ?_
  refine lp rfl (p_neq rfl rfl) ?_
  refine lj_seq ?_
  refine cj_if (b := y2 != 0) rfl (fun hb => ?_) (fun hb => ?_)
  · have hm := ifB_t hb hm
    refine cj_seq ?_
    refine cj_reg ?_
    refine lp rfl (p_mv rfl) ?_
    refine lp rfl (p_as rfl) ?_
    refine lp rfl (p_as rfl) ?_
    refine lj_seq ?_
    obtain rfl := Option.some.inj hm
    exact cj_rt () [] Tryz.results8 (.tmp rfl (.tmp rfl .nil)) rfl rfl
  · have hm := ifB_f hb hm
    refine cj_skip ?_
    refine nj_seq ?_
    refine cj_seq ?_
    refine cj_seq ?_
    refine cj_reg ?_
    refine lp rfl (p_mv rfl) ?_
    obtain ⟨y3, hy3, hm⟩ := bindS hm
    refine r_call [] cf31 rfl rfl (ok_kit_IsKey a1 hy3) rfl rfl .nil (fun _ => rfl) rfl (fun _ => ?_)
    refine lp rfl (p_not rfl) ?_
    refine lj_seq ?_
    refine cj_if (b := !y3) rfl (fun hb => ?_) (fun hb => ?_)
    · have hm := ifB_t hb hm
      refine cj_seq ?_
      refine cj_reg ?_
      refine lp rfl (p_as rfl) ?_
      refine lp rfl (p_as rfl) ?_
      refine lj_seq ?_
      obtain rfl := Option.some.inj hm
      exact cj_rt () [] Tryz.results8 (.tmp rfl (.tmp rfl .nil)) rfl rfl
    · have hm := ifB_f hb hm
      refine cj_skip ?_
      refine nj_seq ?_
      refine cj_seq ?_
      refine cj_reg ?_
      refine lp rfl (p_as rfl) ?_
      refine lp rfl (p_as rfl) ?_
      refine lj_seq ?_
      refine cj_seq ?_
      refine cj_seq ?_
      refine cj_reg ?_
      refine lp rfl (p_fab fl28_0 rfl) ?_
      refine lp rfl (p_lbs ty26 rfl (j := 0) rfl rfl) ?_
      refine lp rfl (p_lenG hL0_0_ Tryz.underlying26 rfl (.ro 2 rfl)) ?_
      refine lp rfl (p_mv rfl) ?_
      refine lj_seq ?_
      obtain ⟨f10, hf10, hm⟩ := bindS hm
      refine cj_range (γ := Unit) (m := (a0.Items.length : Int)) hf10 () (fun u7 g8 => [(1, .string a1), (2, .pointer (some ⟨b1, 0, none⟩)), (4, .int .i64 0), (5, .int .i64 0), (7, .int .i64 u7.1), (8, .int .i64 u7.2), (20, s0_0_.v)]) (fun u7 g8 => Sat w0 (keys ([] : List Ent)) A [.box b1 28 [s0_0_.v, .int .i64 a0.Change, .int .i64 a0.Clap, .int .i64 a0.Break, .int .i64 a0.Half], .ro (Lk N57 a0.Items xg0_0_), .ro (RdS N57.R (SV.v s0_0_) xg0_0_)]) ⟨rfl, rfl, rfl, rfl, rfl, rfl, rfl, rfl, rfl, trivial⟩ (fun _ h => h.picks [0, 0, 0] rfl) (nat_lt _) (fun _ h => by have h1 := (FactAt.get (F := RdS N57.R (SV.v s0_0_) xg0_0_) (.ro 2 rfl) h).1; rw [lk_len hL0_0_] at h1; exact h1) (fun _ _ => ⟨rfl, rfl, rfl, rfl⟩) ⟨rfl, rfl, rfl, rfl, rfl⟩ rfl rfl rfl (fun u7 g8 e => ?_) (fun aftk9 i4 x5 u7 g8 k9 hx6 hs J hJk9 hBk9 hX I cnk9 => ?_)
      · have hm := Flow.fin_b e hm
        refine nj_seq ?_
        refine cj_seq ?_
        refine cj_reg ?_
        refine lp rfl (p_mv rfl) ?_
        refine lp rfl (p_as rfl) ?_
        refine lp rfl (p_as rfl) ?_
        refine lj_seq ?_
        obtain rfl := Option.some.inj hm
        exact cj_rt () [] Tryz.results8 (.tmp rfl (.tmp rfl .nil)) rfl rfl
      · have hRk9 : ∀ t, k9 = .ret t → some t = some r := fun t e => by rw [hX t e] at hm; exact hm
        have hm := hs
        refine cj_seq ?_
        refine cj_reg ?_
        refine lp rfl (p_mv rfl) ?_
        obtain ⟨gx5, hx6G⟩ := lk_get hL0_0_ hx6
        refine lp rfl (p_idx Tryz.underlying26 ty57 rfl rfl (.ro 2 rfl) (getI_nat.trans hx6G)) ?_
        refine lp rfl (p_leaN (cs := [.string x5.Key, .string x5.Places, .int .i64 x5.Long, gx5.v]) ty57 rfl (.ro 2 rfl) hx6G rfl) ?_
        refine r_al ty57 rfl (fun b11 => ?_)
        refine lp rfl (p_as rfl) ?_
        refine r_sb (vs := [.string x5.Key, .string x5.Places, .int .i64 x5.Long, gx5.v]) (j := 0) ty57 rfl rfl rfl rfl rfl rfl rfl ?_
        refine lj_seq ?_
        refine cj_seq ?_
        refine cj_seq ?_
        refine cj_reg ?_
        refine lp rfl (p_fab fl57_3 rfl) ?_
        refine lp rfl (p_lbs ty55 rfl (j := 0) rfl rfl) ?_
        refine lp rfl (p_mv rfl) ?_
        obtain ⟨y12, hy12, hm⟩ := bindS hm
        refine r_call [] cf32 rfl rfl (ok_slices_Contains_string_string gx5 x5.Parts a1 hy12) rfl rfl (.cons (.imp (.ro 2 rfl) (fun _ h => (Lk.at_ h hx6G))) .nil) (fun _ => rfl) rfl (fun _ => ?_)
        refine lp rfl (p_not rfl) ?_
        refine lj_seq ?_
        refine cj_if (b := !y12) rfl (fun hb => ?_) (fun hb => ?_)
        · have hm := ifB_t hb hm
          refine cj_seq ?_
          refine cj_reg ?_
          refine lp rfl (p_as rfl) ?_
          refine lj_seq ?_
          refine cj_exit rfl ?_
          exact cnk9 _ _ (u7.1, 0) () (hJk9 _ (Option.some.inj hm).symm) ⟨rfl, rfl, rfl, rfl, rfl, rfl, rfl, rfl, rfl, trivial⟩ (fun _ h => h.picks [1, 1, 1] rfl)
        · have hm := ifB_f hb hm
          refine cj_skip ?_
          refine nj_seq ?_
          refine cj_seq ?_
          refine cj_seq ?_
          refine cj_reg ?_
          obtain ⟨k15, hk15, hm⟩ := bindS hm
          have hRk15 : ∀ t, k15 = .inr t → some t = some k9 := fun t e => by rw [e] at hm; exact hm
          refine lj_join (σ := Bool) (γ := Unit) (fun u13 => k15 = .inl u13) (fun u13 g14 => [(1, .string a1), (2, .pointer (some ⟨b1, 0, none⟩)), (4, .int .i64 0), (5, .int .i64 0), (7, .int .i64 u7.1), (8, .int .i64 u7.2), (10, .pointer (some ⟨b11, 0, none⟩)), (20, s0_0_.v), (21, .int .i64 (a0.Items.length : Int)), (22, .int .i64 (i4 : Int)), (40, .bool u13)]) (fun u13 g14 => Sat w0 (keys ([] : List Ent)) A [.box b11 57 [.string x5.Key, .string x5.Places, .int .i64 x5.Long, gx5.v], .box b1 28 [s0_0_.v, .int .i64 a0.Change, .int .i64 a0.Clap, .int .i64 a0.Break, .int .i64 a0.Half], .ro (Lk N57 a0.Items xg0_0_), .ro (RdS N57.R (SV.v s0_0_) xg0_0_)]) (fun u13 g14 hq => ?_) (fun J cnk15 => ?_)
          · have hm := Sum.fin_l hq hm
            obtain ⟨k18, hk18, hm⟩ := bindS hm
            have hRk18 : ∀ t, k18 = .inr t → some t = some k9 := fun t e => by rw [e] at hm; exact hm
            refine cj_joinK (σ := Int) (γ := Unit) (fun u16 => k18 = .inl u16) (fun u16 g17 => [(1, .string a1), (2, .pointer (some ⟨b1, 0, none⟩)), (4, .int .i64 0), (5, .int .i64 0), (7, .int .i64 u7.1), (8, .int .i64 u16), (10, .pointer (some ⟨b11, 0, none⟩)), (20, s0_0_.v), (21, .int .i64 (a0.Items.length : Int)), (22, .int .i64 (i4 : Int))]) (fun u16 g17 => Sat w0 (keys ([] : List Ent)) A [.box b11 57 [.string x5.Key, .string x5.Places, .int .i64 x5.Long, gx5.v], .box b1 28 [s0_0_.v, .int .i64 a0.Change, .int .i64 a0.Clap, .int .i64 a0.Break, .int .i64 a0.Half], .ro (Lk N57 a0.Items xg0_0_), .ro (RdS N57.R (SV.v s0_0_) xg0_0_)]) (fun u16 g17 hq => ?_) (fun J cnk18 => ?_)
            · have hm := Sum.fin_l hq hm
              refine cj_seq ?_
              refine cj_reg ?_
              refine lp rfl (p_mv rfl) ?_
              refine lp rfl (p_fab fl57_2 rfl) ?_
              refine lp rfl (p_lbs ty3 rfl (j := 0) rfl rfl) ?_
              refine lp rfl (p_add rfl rfl) ?_
              refine lp rfl (p_as rfl) ?_
              refine lj_seq ?_
              refine cj_reg ?_
              refine lp rfl (p_mv rfl) ?_
              refine lp rfl (p_mv rfl) ?_
              refine lp rfl (p_max rfl rfl) ?_
              refine lp rfl (p_as rfl) ?_
              refine lj_nil ?_
              refine nj_blk ?_
              exact cnk9 _ _ (max u7.1 (w64 (u16 + x5.Long)), w64 (u16 + x5.Long)) () (hJk9 _ (Option.some.inj hm).symm) ⟨rfl, rfl, rfl, rfl, rfl, rfl, rfl, rfl, rfl, trivial⟩ (fun _ h => h.picks [1, 1, 1] rfl)
            · have hm := hk18
              refine cj_if (b := u13) rfl (fun hb => ?_) (fun hb => ?_)
              · have hm := ifB_t hb hm
                refine cj_reg ?_
                refine lp rfl (p_as rfl) ?_
                refine lj_nil ?_
                exact cnk18 _ _ 0 () (Option.some.inj hm).symm ⟨rfl, rfl, rfl, rfl, rfl, rfl, rfl, rfl, rfl, rfl, trivial⟩ (fun _ h => h.picks [0, 0, 0, 0] rfl)
              · have hm := ifB_f hb hm
                refine cj_skip ?_
                exact cnk18 _ _ u7.2 () (Option.some.inj hm).symm ⟨rfl, rfl, rfl, rfl, rfl, rfl, rfl, rfl, rfl, rfl, trivial⟩ (fun _ h => h.picks [0, 0, 0, 0] rfl)
          · have hm := hk15
            refine lp rfl (p_mv rfl) ?_
            refine lp rfl (p_gtr rfl rfl) ?_
            refine lp rfl (p_mv rfl) ?_
            refine lcase (i := 34) (decide ((i4 : Int) > 0)) rfl (fun hb => ?_) (fun hb => ?_)
            · have hm := ifB_t hb hm
              refine lg true rfl rfl rfl ?_
              refine lp rfl (p_mv rfl) ?_
              refine lg true rfl rfl rfl ?_
              refine lp rfl (p_sub rfl rfl) ?_
              refine lg true rfl rfl rfl ?_
              refine lp rfl (p_fab fl28_4 rfl) ?_
              refine lg true rfl rfl rfl ?_
              refine lp rfl (p_lbs ty3 rfl (j := 1) rfl rfl) ?_
              refine lg true rfl rfl rfl ?_
              refine lp rfl (p_eql rfl rfl) ?_
              refine lp rfl (p_pkt rfl rfl) ?_
              refine lj_nil ?_
              exact cnk15 _ _ ((w64 ((i4 : Int) - 1)) == a0.Half) () (Option.some.inj hm).symm ⟨rfl, rfl, rfl, rfl, rfl, rfl, rfl, rfl, rfl, rfl, rfl, trivial⟩ (fun _ h => h.picks [0, 0, 0, 0] rfl)
            · have hm := ifB_f hb hm
              refine ls true rfl rfl rfl rfl ?_
              refine ls true rfl rfl rfl rfl ?_
              refine ls true rfl rfl rfl rfl ?_
              refine ls true rfl rfl rfl rfl ?_
              refine ls true rfl rfl rfl rfl ?_
              refine lp rfl (p_pkf rfl rfl) ?_
              refine lj_nil ?_
              exact cnk15 _ _ false () (Option.some.inj hm).symm ⟨rfl, rfl, rfl, rfl, rfl, rfl, rfl, rfl, rfl, rfl, rfl, trivial⟩ (fun _ h => h.picks [0, 0, 0, 0] rfl)
theorem ok_maps_Keys_map_string_bool_string_bool (m : Nat) : Ctr Tryz.prog 57 [.map (some m)].toArray ([] : List Ent) [] (X := Nat) (fun b => .func (.func 90) #[] [.pointer (some ⟨b, 0, none⟩)].toArray) (fun b => [.box b 90 [.map (some m)]]) := by
  refine ctr_mk (vs := [(0, .map (some m))]) Tryz.func57 rfl Tryz.ntmps57 rfl ⟨rfl, trivial⟩ (fun w0 A => ?_)
  refine cj_seq ?_
  refine cj_reg ?_
  refine r_bx (cs := [.map (some m)]) rfl rfl rfl (fun b => ?_)
  refine lp rfl (p_as rfl) ?_
  refine lj_seq ?_
  refine cj_seq ?_
  refine cj_reg ?_
  refine lp rfl (p_fn (cv := [.pointer (some ⟨b, 0, none⟩)]) rfl) ?_
  refine lp rfl (p_as rfl) ?_
  refine lj_seq ?_
  exact cj_rt b [0] Tryz.results57 (.tmp rfl .nil) rfl rfl
theorem ok_slices_Sorted_string__maps_Keys_map_string_bool_string_bool_1_A (bx mb : Nat) (mes : Array MapEntry) (mcl : Nat) (L : List (ByteArray × Bool)) (hl : L.length ≤ 1000000000) :
    Ctr Tryz.prog 111 [SV.v nilS, .func (.func 90) #[] [.pointer (some ⟨bx, 0, none⟩)].toArray].toArray [.row R9 (SV.v nilS) []] [BoxS bx 90 [.map (some mb)], MapAt kv9 mb (mpV vv4 L) mes mcl] (X := SV × {q : List ByteArray // q.Perm (L.map Prod.fst)}) (fun s => s.1.v) (fun s => [.row R9 (SV.v s.1) s.2.1]) := by
  refine ctr_mkM (vs := [(0, SV.v nilS), (1, .func (.func 90) #[] [.pointer (some ⟨bx, 0, none⟩)].toArray)]) Tryz.func111 rfl Tryz.ntmps111 rfl ⟨rfl, rfl, trivial⟩ (fun w0 A => ?_)
  refine cj_seq ?_
  refine cj_reg ?_
  refine r_bx (cs := [SV.v nilS]) rfl rfl rfl (fun b1 => ?_)
  refine lp rfl (p_as rfl) ?_
  refine lj_seq ?_
  refine cj_seq ?_
  refine cj_seq ?_
  refine cj_reg ?_
  refine lp rfl (p_mv rfl) ?_
  refine lj_seq ?_
  refine cj_keys (γ := SV) (fn := Tryz.f90) (vv := vv4) (ρ := List ByteArray) Tryz.func90 rfl rfl rfl Tryz.underlying90 ty90 cf90 rfl rfl (by kernel_rfl) (by kernel_rfl) (appStep_all (by_ := 16) (by decide) (by rw [List.length_map]; omega)) (fun u g => [.box b1 55 [g.v], .ro (BoxS bx 90 [.map (some mb)]), .ro (MapAt kv9 mb (mpV vv4 L) mes mcl), .row R9 (SV.v g) u]) nilS (fun _ h => h.picks [0, 1, 1, 0] rfl) (fun _ _ => (.ro 1 rfl)) (fun _ _ => (.ro 2 rfl)) (fun u g D aft => ?_) (fun i x u g k hs o1 o2 o3 oi I I0 hend hmid => ?_)
  · refine nj_seq ?_
    refine cj_seq ?_
    refine cj_reg ?_
    refine lp rfl (p_lbs ty55 rfl (j := 1) rfl rfl) ?_
    refine lp rfl (p_as rfl) ?_
    refine lj_seq ?_
    exact cj_rtM 0 (g, ⟨u, KfP_brk aft⟩) [4] Tryz.results111 rfl (.tmp rfl .nil) rfl rfl
  · have hm := hs
    refine cj_reg ?_
    refine lp rfl (p_as rfl) ?_
    refine lj_nil ?_
    refine hmid _ _ [.obj oi, .box b1 55 [g.v], .ro (BoxS bx 90 [.map (some mb)]), .ro (MapAt kv9 mb (mpV vv4 L) mes mcl), .row R9 (SV.v g) u] (fun _ h => h.picks [0, 0, 0, 0, 0, 0, 0] rfl) ?_
    refine cj_blk ?_
    refine cj_reg ?_
    refine lp rfl (p_lbs ty55 rfl (j := 3) rfl rfl) ?_
    refine lp rfl (p_mv rfl) ?_
    refine r_bs R9 [x] rfl rfl rfl (fun _ => by kernel_rfl) rfl (fun s13 => ?_)
    obtain ⟨q, hq, hm⟩ := bindS hm
    refine r_app (k := 7) Tryz.underlying55 ty9 rfl rfl rfl rfl (.row 0 rfl) hq rfl (fun s15 => ?_)
    refine r_sb (vs := [s15.v]) (j := 4) ty55 rfl rfl rfl rfl rfl rfl rfl ?_
    refine lj_nil ?_
    refine nj_blk ?_
    exact hend _ _ q s15 (Option.some.inj hm).symm (fun _ h => h.picks [1, 1, 1, 1, 1, 1, 1] rfl)
theorem ok_slices_Sorted_string__maps_Keys_map_string_bool_string_bool_1_C (bx mb : Nat) (mes : Array MapEntry) (mcl : Nat) (L : List (ByteArray × Bool)) (hl : L.length ≤ 1000000000) :
    Ctr Tryz.prog 89 [.func (.func 90) #[] [.pointer (some ⟨bx, 0, none⟩)].toArray].toArray ([] : List Ent) [BoxS bx 90 [.map (some mb)], MapAt kv9 mb (mpV vv4 L) mes mcl] (X := SV × {q : List ByteArray // q.Perm (L.map Prod.fst)}) (fun s => s.1.v) (fun s => [.row R9 (SV.v s.1) s.2.1]) := by
  refine ctr_mk (vs := [(0, .func (.func 90) #[] [.pointer (some ⟨bx, 0, none⟩)].toArray)]) Tryz.func89 rfl Tryz.ntmps89 rfl ⟨rfl, trivial⟩ (fun w0 A => ?_)
  refine cj_seq ?_
  refine cj_reg ?_
  refine lp rfl (p_as rfl) ?_
  refine lj_seq ?_
  refine cj_seq ?_
  refine cj_reg ?_
  refine lp rfl (p_mv rfl) ?_
  refine r_nil R9 ?_
  refine r_call [0] cf111 rfl rfl (ok_slices_Sorted_string__maps_Keys_map_string_bool_string_bool_1_A bx mb mes mcl L hl) rfl rfl (.cons (.ro 0 rfl) (.cons (.ro 1 rfl) .nil)) (fun _ => rfl) rfl (fun s3 => ?_)
  refine lp rfl (p_as rfl) ?_
  refine lj_seq ?_
  exact cj_rt s3 [0] Tryz.results89 (.tmp rfl .nil) rfl rfl
theorem ok_slices_Sorted_string__maps_Keys_map_string_bool_string_bool_1 (bx mb : Nat) (mes : Array MapEntry) (mcl : Nat) (L : List (ByteArray × Bool)) {r : List ByteArray} (hm : m_slices_Sorted_string__maps_Keys_map_string_bool_string_bool_1 L = some r) :
    Ctr Tryz.prog 56 [.func (.func 90) #[] [.pointer (some ⟨bx, 0, none⟩)].toArray].toArray ([] : List Ent) [BoxS bx 90 [.map (some mb)], MapAt kv9 mb (mpV vv4 L) mes mcl] (X := SV) (fun s => s.v) (fun s => [.row R9 (SV.v s) r]) := by
  unfold m_slices_Sorted_string__maps_Keys_map_string_bool_string_bool_1 at hm
  split at hm
  case isFalse => cases hm
  rename_i hl
  refine ctr_mk (vs := [(0, .func (.func 90) #[] [.pointer (some ⟨bx, 0, none⟩)].toArray)]) Tryz.func56 rfl Tryz.ntmps56 rfl ⟨rfl, trivial⟩ (fun w0 A => ?_)
  refine cj_seq ?_
  refine cj_reg ?_
  refine lp rfl (p_as rfl) ?_
  refine lj_seq ?_
  refine cj_seq ?_
  refine cj_reg ?_
  refine lp rfl (p_mv rfl) ?_
  refine r_call [] cf89 rfl rfl (ok_slices_Sorted_string__maps_Keys_map_string_bool_string_bool_1_C bx mb mes mcl L hl) rfl rfl (.cons (.ro 0 rfl) (.cons (.ro 1 rfl) .nil)) (fun _ => rfl) rfl (fun s2 => ?_)
  obtain ⟨s2, q, hq⟩ := s2
  have hm := (m_Sort_perm hq).trans hm
  refine lp rfl (p_as rfl) ?_
  refine lj_seq ?_
  refine cj_seq ?_
  refine cj_reg ?_
  refine lp rfl (p_mv rfl) ?_
  refine r_call [0] cf62 rfl rfl (ok_slices_Sort_string_string s2 q hm) rfl rfl .nil (fun _ => rfl) rfl (fun _ => ?_)
  refine lj_seq ?_
  refine cj_seq ?_
  refine cj_reg ?_
  refine lp rfl (p_mv rfl) ?_
  refine lp rfl (p_as rfl) ?_
  refine lj_seq ?_
  exact cj_rt s2 [0] Tryz.results56 (.tmp rfl .nil) rfl rfl
theorem ok_concert_partsOf (a0 : TProgram) (s0_0_ : SV) (xg0_0_ : List (TItem × SV)) {r : (List ByteArray)} (hm : m_concert_partsOf a0 = some r) :
    Ctr Tryz.prog 34 [.agg [s0_0_.v, .int .i64 a0.Change, .int .i64 a0.Clap, .int .i64 a0.Break, .int .i64 a0.Half].toArray].toArray ([] : List Ent) [Lk N57 a0.Items xg0_0_, RdS N57.R (SV.v s0_0_) xg0_0_] (X := SV) (fun s => s.v) (fun s => [.row R9 (SV.v s) r]) := by
  unfold m_concert_partsOf at hm
  refine ctr_mk (vs := [(0, .agg [s0_0_.v, .int .i64 a0.Change, .int .i64 a0.Clap, .int .i64 a0.Break, .int .i64 a0.Half].toArray)]) Tryz.func34 rfl Tryz.ntmps34 rfl ⟨rfl, trivial⟩ (fun w0 A => ?_)
  refine cj_pure (F := Lk N57 a0.Items xg0_0_) (.ro 0 rfl) (fun _ h => h.1) (fun hL0_0_ => ?_)
  refine cj_seq ?_
  refine cj_reg ?_
  refine r_bx (cs := [s0_0_.v, .int .i64 a0.Change, .int .i64 a0.Clap, .int .i64 a0.Break, .int .i64 a0.Half]) rfl rfl rfl (fun b1 => ?_)
  refine lp rfl (p_as rfl) ?_
  refine lj_seq ?_
  refine cj_seq ?_
  refine cj_reg ?_
  refine r_mkmap kv9 vv4 rfl (fun b2 => ?_)
  refine lp rfl (p_as rfl) ?_
  refine lj_seq ?_
  refine cj_seq ?_
  refine cj_seq ?_
  refine cj_reg ?_
  refine lp rfl (p_fab fl28_0 rfl) ?_
  refine lp rfl (p_lbs ty26 rfl (j := 1) rfl rfl) ?_
  refine lp rfl (p_lenG hL0_0_ Tryz.underlying26 rfl (.ro 3 rfl)) ?_
  refine lp rfl (p_mv rfl) ?_
  refine lj_seq ?_
  obtain ⟨f9, hf9, hm⟩ := bindS hm
  refine cj_range (γ := (Array MapEntry × Nat)) (m := (a0.Items.length : Int)) hf9 (#[], 0) (fun u6 g7 => [(2, .slice none 0 0), (3, .map (some b2)), (10, s0_0_.v)]) (fun u6 g7 => Sat w0 (keys ([] : List Ent)) A [.obj (mapO kv9 b2 (mpV vv4 u6) g7.1 g7.2), .ro (Lk N57 a0.Items xg0_0_), .ro (RdS N57.R (SV.v s0_0_) xg0_0_)]) ⟨rfl, rfl, rfl, rfl, rfl, trivial⟩ (fun _ h => h.picks [0, 1, 1] rfl) (nat_lt _) (fun _ h => by have h1 := (FactAt.get (F := RdS N57.R (SV.v s0_0_) xg0_0_) (.ro 3 rfl) h).1; rw [lk_len hL0_0_] at h1; exact h1) (fun _ _ => ⟨rfl, rfl, rfl, rfl⟩) ⟨rfl, rfl, rfl, rfl, rfl⟩ rfl rfl rfl (fun u6 g7 e => ?_) (fun aftk8 i3 x4 u6 g7 k8 hx5 hs J hJk8 hBk8 hX I cnk8 => ?_)
  · have hm := Flow.fin_b e hm
    refine nj_seq ?_
    refine cj_seq ?_
    refine cj_reg ?_
    refine lp rfl (p_mv rfl) ?_
    refine r_call [] cf57 rfl rfl (ok_maps_Keys_map_string_bool_string_bool b2) rfl rfl .nil (fun _ => rfl) rfl (fun b20 => ?_)
    refine r_fzb 0 rfl ?_
    obtain ⟨y21, hy21, hm⟩ := bindS hm
    refine r_call [] cf56 rfl rfl (ok_slices_Sorted_string__maps_Keys_map_string_bool_string_bool_1 b20 b2 g7.1 g7.2 u6 hy21) rfl rfl (.cons (.ro 0 rfl) (.cons (.map 1 rfl) .nil)) (fun _ => rfl) rfl (fun s22 => ?_)
    refine lp rfl (p_as rfl) ?_
    refine lj_seq ?_
    obtain rfl := Option.some.inj hm
    exact cj_rt s22 [0] Tryz.results34 (.tmp rfl .nil) rfl rfl
  · have hRk8 : ∀ t, k8 = .ret t → some t = some r := fun t e => by rw [hX t e] at hm; exact hm
    have hm := hs
    refine cj_seq ?_
    refine cj_reg ?_
    obtain ⟨gx4, hx5G⟩ := lk_get hL0_0_ hx5
    refine lp rfl (p_idx Tryz.underlying26 ty57 rfl rfl (.ro 2 rfl) (getI_nat.trans hx5G)) ?_
    refine lp rfl (p_leaN (cs := [.string x4.Key, .string x4.Places, .int .i64 x4.Long, gx4.v]) ty57 rfl (.ro 2 rfl) hx5G rfl) ?_
    refine r_al ty57 rfl (fun b10 => ?_)
    refine r_sb (vs := [.string x4.Key, .string x4.Places, .int .i64 x4.Long, gx4.v]) (j := 0) ty57 rfl rfl rfl rfl rfl rfl rfl ?_
    refine lj_seq ?_
    refine cj_seq ?_
    refine cj_reg ?_
    refine lp rfl (p_fab fl57_3 rfl) ?_
    refine lp rfl (p_lbs ty55 rfl (j := 0) rfl rfl) ?_
    refine lp rfl (p_len Tryz.underlying55 rfl (.imp (.ro 2 rfl) (fun _ h => (Lk.at_ h hx5G)))) ?_
    refine lp rfl (p_mv rfl) ?_
    refine lj_seq ?_
    obtain ⟨f17, hf17, hm⟩ := bindS hm
    refine cj_range (γ := (Array MapEntry × Nat)) (m := (x4.Parts.length : Int)) hf17 (g7.1, g7.2) (fun u14 g15 => [(2, .slice none 0 0), (3, .map (some b2)), (10, s0_0_.v), (11, .int .i64 (a0.Items.length : Int)), (12, .int .i64 (i3 : Int)), (17, gx4.v)]) (fun u14 g15 => Sat w0 (keys ([] : List Ent)) A [.obj (mapO kv9 b2 (mpV vv4 u14) g15.1 g15.2), .ro (Lk N57 a0.Items xg0_0_), .ro (RdS N57.R (SV.v s0_0_) xg0_0_)]) ⟨rfl, rfl, rfl, rfl, rfl, rfl, rfl, rfl, trivial⟩ (fun _ h => h.picks [1, 1, 1] rfl) (nat_lt _) (fun _ h => (FactAt.get (F := RdS R9 (SV.v gx4) x4.Parts) (.imp (.ro 2 rfl) (fun _ h => (Lk.at_ h hx5G))) h).1) (fun _ _ => ⟨rfl, rfl, rfl, rfl⟩) ⟨rfl, rfl, rfl, rfl, rfl⟩ rfl rfl rfl (fun u14 g15 e => ?_) (fun aftk16 i11 x12 u14 g15 k16 hx13 hs J hJk16 hBk16 hX I cnk16 => ?_)
    · have hm := Flow.fin_b e hm
      refine nj_blk ?_
      exact cnk8 _ _ u14 (g15.1, g15.2) (hJk8 _ (Option.some.inj hm).symm) ⟨rfl, rfl, rfl, rfl, rfl, trivial⟩ (fun _ h => h.picks [0, 0, 0] rfl)
    · have hRk16 : ∀ t, k16 = .ret t → some t = some k8 := fun t e => by rw [hX t e] at hm; exact hm
      have hm := hs
      refine cj_seq ?_
      refine cj_reg ?_
      refine lp rfl (p_idx Tryz.underlying55 ty9 rfl rfl (.imp (.ro 1 rfl) (fun _ h => (Lk.at_ h hx5G))) (getI_nat.trans hx13)) ?_
      refine lp rfl (p_lde (o := 0) ty9 rfl rfl (.imp (.ro 1 rfl) (fun _ h => (Lk.at_ h hx5G))) hx13 rfl) ?_
      refine lp rfl (p_as rfl) ?_
      refine lj_seq ?_
      refine cj_reg ?_
      refine lp rfl (p_mv rfl) ?_
      refine lp rfl (p_mv rfl) ?_
      refine r_mpu (j := 0) (vv := vv4) (k := x12) (v := true) Tryz.underlying90 keyF9 rfl rfl rfl rfl (fun es18 cl19 => ?_)
      refine lj_nil ?_
      refine nj_blk ?_
      exact cnk16 _ _ (putM u14 x12 true) (es18, cl19) (hJk16 _ (Option.some.inj hm).symm) ⟨rfl, rfl, rfl, rfl, rfl, rfl, rfl, rfl, trivial⟩ (fun _ h => h.picks [0, 0, 0] rfl)
theorem ok_concert_change (a0 : TProgram) (s0_0_ : SV) (xg0_0_ : List (TItem × SV)) (a1 : TItem) (s1_3_ : SV) (a2 : TItem) (s2_3_ : SV) {r : Int} (hm : m_concert_change a0 a1 a2 = some r) :
    Ctr Tryz.prog 112 [.agg [s0_0_.v, .int .i64 a0.Change, .int .i64 a0.Clap, .int .i64 a0.Break, .int .i64 a0.Half].toArray, .agg [.string a1.Key, .string a1.Places, .int .i64 a1.Long, s1_3_.v].toArray, .agg [.string a2.Key, .string a2.Places, .int .i64 a2.Long, s2_3_.v].toArray].toArray ([] : List Ent) [Lk N57 a0.Items xg0_0_, RdS N57.R (SV.v s0_0_) xg0_0_, RdS R9 (SV.v s1_3_) a1.Parts, RdS R9 (SV.v s2_3_) a2.Parts] (X := Unit) (fun _ => .int .i64 r) (fun _ => []) := by
  unfold m_concert_change at hm
  refine ctr_mk (vs := [(0, .agg [s0_0_.v, .int .i64 a0.Change, .int .i64 a0.Clap, .int .i64 a0.Break, .int .i64 a0.Half].toArray), (1, .agg [.string a1.Key, .string a1.Places, .int .i64 a1.Long, s1_3_.v].toArray), (2, .agg [.string a2.Key, .string a2.Places, .int .i64 a2.Long, s2_3_.v].toArray)]) Tryz.func112 rfl Tryz.ntmps112 rfl ⟨rfl, rfl, rfl, trivial⟩ (fun w0 A => ?_)
  refine cj_pure (F := Lk N57 a0.Items xg0_0_) (.ro 0 rfl) (fun _ h => h.1) (fun hL0_0_ => ?_)
  refine cj_seq ?_
  refine cj_reg ?_
  refine r_bx (cs := [s0_0_.v, .int .i64 a0.Change, .int .i64 a0.Clap, .int .i64 a0.Break, .int .i64 a0.Half]) rfl rfl rfl (fun b1 => ?_)
  refine r_bx (cs := [.string a1.Key, .string a1.Places, .int .i64 a1.Long, s1_3_.v]) rfl rfl rfl (fun b2 => ?_)
  refine r_bx (cs := [.string a2.Key, .string a2.Places, .int .i64 a2.Long, s2_3_.v]) rfl rfl rfl (fun b3 => ?_)
  refine lp rfl (p_as rfl) ?_
  refine lj_seq ?_
  refine cj_seq ?_
  refine cj_seq ?_
  refine cj_reg ?_
  refine lp rfl (p_fab fl57_1 rfl) ?_
  refine lp rfl (p_lbs ty9 rfl (j := 1) rfl rfl) ?_
  refine lp rfl (p_fab fl57_1 rfl) ?_
  refine lp rfl (p_lbs ty9 rfl (j := 0) rfl rfl) ?_
  refine lp rfl (p_nes rfl rfl) ?_
  refine lj_seq ?_
  refine cj_if (b := !(a1.Places.toList == a2.Places.toList)) rfl (fun hb => ?_) (fun hb => ?_)
  · have hm := ifB_t hb hm
    refine cj_seq ?_
    refine cj_reg ?_
    refine lp rfl (p_fab fl28_1 rfl) ?_
    refine lp rfl (p_lbs ty3 rfl (j := 2) rfl rfl) ?_
    refine lp rfl (p_as rfl) ?_
    refine lj_seq ?_
    obtain rfl := Option.some.inj hm
    exact cj_rt () [] Tryz.results112 (.tmp rfl .nil) rfl rfl
  · have hm := ifB_f hb hm
    refine cj_skip ?_
    refine nj_seq ?_
    refine cj_seq ?_
    refine cj_reg ?_
    refine lp rfl (p_fab fl28_2 rfl) ?_
    refine lp rfl (p_lbs ty3 rfl (j := 2) rfl rfl) ?_
    refine lp rfl (p_as rfl) ?_
    refine lj_seq ?_
    obtain rfl := Option.some.inj hm
    exact cj_rt () [] Tryz.results112 (.tmp rfl .nil) rfl rfl
theorem ok_concert_behind (a0 : TProgram) (s0_0_ : SV) (xg0_0_ : List (TItem × SV)) (a1 : Int) {r : Int} (hm : m_concert_behind a0 a1 = some r) :
    Ctr Tryz.prog 91 [.agg [s0_0_.v, .int .i64 a0.Change, .int .i64 a0.Clap, .int .i64 a0.Break, .int .i64 a0.Half].toArray, .int .i64 a1].toArray ([] : List Ent) [Lk N57 a0.Items xg0_0_, RdS N57.R (SV.v s0_0_) xg0_0_] (X := Unit) (fun _ => .int .i64 r) (fun _ => []) := by
  unfold m_concert_behind at hm
  refine ctr_mk (vs := [(0, .agg [s0_0_.v, .int .i64 a0.Change, .int .i64 a0.Clap, .int .i64 a0.Break, .int .i64 a0.Half].toArray), (1, .int .i64 a1)]) Tryz.func91 rfl Tryz.ntmps91 rfl ⟨rfl, rfl, trivial⟩ (fun w0 A => ?_)
  refine cj_pure (F := Lk N57 a0.Items xg0_0_) (.ro 0 rfl) (fun _ h => h.1) (fun hL0_0_ => ?_)
  refine cj_seq ?_
  refine cj_reg ?_
  refine r_bx (cs := [s0_0_.v, .int .i64 a0.Change, .int .i64 a0.Clap, .int .i64 a0.Break, .int .i64 a0.Half]) rfl rfl rfl (fun b1 => ?_)
  refine lp rfl (p_as rfl) ?_
  refine lj_seq ?_
  refine cj_seq ?_
  refine cj_seq ?_
  refine cj_reg ?_
  refine lp rfl (p_mv rfl) ?_
  refine lp rfl (p_fab fl28_4 rfl) ?_
  refine lp rfl (p_lbs ty3 rfl (j := 0) rfl rfl) ?_
  refine lp rfl (p_eql rfl rfl) ?_
  refine lj_seq ?_
  refine cj_if (b := a1 == a0.Half) rfl (fun hb => ?_) (fun hb => ?_)
  · have hm := ifB_t hb hm
    refine cj_seq ?_
    refine cj_reg ?_
    refine lp rfl (p_fab fl28_3 rfl) ?_
    refine lp rfl (p_lbs ty3 rfl (j := 0) rfl rfl) ?_
    refine lp rfl (p_as rfl) ?_
    refine lj_seq ?_
    obtain rfl := Option.some.inj hm
    exact cj_rt () [] Tryz.results91 (.tmp rfl .nil) rfl rfl
  · have hm := ifB_f hb hm
    refine cj_skip ?_
    refine nj_seq ?_
    refine cj_seq ?_
    refine cj_quiet (by kernel_rfl) (by kernel_rfl) ?_
    refine q_p rfl (p_lbw ty28 rfl (j := 0) rfl rfl) ?_
    refine q_p rfl (p_fab fl28_0 rfl) ?_
    refine q_p rfl (p_lbs ty26 rfl (j := 0) rfl rfl) ?_
    refine q_p rfl (p_mv rfl) ?_
    obtain ⟨e2, he2, hm⟩ := bindS hm
    obtain ⟨ge2, he2G⟩ := lk_getI hL0_0_ he2
    refine q_p rfl (p_idx Tryz.underlying26 ty57 rfl rfl (.ro 2 rfl) he2G) ?_
    refine q_p rfl (p_leaN (cs := [.string e2.Key, .string e2.Places, .int .i64 e2.Long, ge2.v]) ty57 rfl (.ro 2 rfl) (getI_spec he2G).2 rfl) ?_
    refine q_p rfl (p_fab fl28_0 rfl) ?_
    refine q_p rfl (p_lbs ty26 rfl (j := 0) rfl rfl) ?_
    refine q_p rfl (p_mv rfl) ?_
    refine q_p rfl (p_add rfl rfl) ?_
    obtain ⟨e3, he3, hm⟩ := bindS hm
    obtain ⟨ge3, he3G⟩ := lk_getI hL0_0_ he3
    refine q_p rfl (p_idx Tryz.underlying26 ty57 rfl rfl (.ro 2 rfl) he3G) ?_
    refine q_p rfl (p_leaN (cs := [.string e3.Key, .string e3.Places, .int .i64 e3.Long, ge3.v]) ty57 rfl (.ro 2 rfl) (getI_spec he3G).2 rfl) ?_
    obtain ⟨y4, hy4, hm⟩ := bindS hm
    refine q_call (.int .i64 y4) cf112 rfl rfl (ok_concert_change a0 s0_0_ xg0_0_ e2 ge2 e3 ge3 hy4) (.cons (.ro 1 rfl) (.cons (.ro 2 rfl) (.cons (.imp (.ro 1 rfl) (fun _ h => (Lk.at_ h (getI_spec he2G).2))) (.cons (.imp (.ro 1 rfl) (fun _ h => (Lk.at_ h (getI_spec he3G).2))) .nil)))) (fun _ => rfl) (fun _ => rfl) rfl ?_
    refine q_p rfl (p_as rfl) ?_
    refine q_nil ?_
    refine nj_seq ?_
    obtain rfl := Option.some.inj hm
    exact cj_rt () [] Tryz.results91 (.tmp rfl .nil) rfl rfl
theorem ok_concert_begins (a0 : TProgram) (s0_0_ : SV) (xg0_0_ : List (TItem × SV)) {r : (List Int) × Int} (hm : m_concert_begins a0 = some r) :
    Ctr Tryz.prog 58 [.agg [s0_0_.v, .int .i64 a0.Change, .int .i64 a0.Clap, .int .i64 a0.Break, .int .i64 a0.Half].toArray].toArray ([] : List Ent) [Lk N57 a0.Items xg0_0_, RdS N57.R (SV.v s0_0_) xg0_0_] (X := SV) (fun s => .tuple [s.v, .int .i64 r.2].toArray) (fun s => [.row R3 (SV.v s) r.1]) := by
  unfold m_concert_begins at hm
  refine ctr_mk (vs := [(0, .agg [s0_0_.v, .int .i64 a0.Change, .int .i64 a0.Clap, .int .i64 a0.Break, .int .i64 a0.Half].toArray)]) Tryz.func58 rfl Tryz.ntmps58 rfl ⟨rfl, trivial⟩ (fun w0 A => ?_)
  refine cj_pure (F := Lk N57 a0.Items xg0_0_) (.ro 0 rfl) (fun _ h => h.1) (fun hL0_0_ => ?_)
  refine cj_seq ?_
  refine cj_reg ?_
  refine r_bx (cs := [s0_0_.v, .int .i64 a0.Change, .int .i64 a0.Clap, .int .i64 a0.Break, .int .i64 a0.Half]) rfl rfl rfl (fun b1 => ?_)
  refine lp rfl (p_as rfl) ?_
  refine lp rfl (p_as rfl) ?_
  refine lj_seq ?_
  refine cj_seq ?_
  refine cj_reg ?_
  refine lp rfl (p_as rfl) ?_
  refine lj_seq ?_
  refine cj_seq ?_
  refine cj_reg ?_
  refine lp rfl (p_as rfl) ?_
  refine lj_seq ?_
  refine cj_seq ?_
  refine cj_seq ?_
  refine cj_reg ?_
  refine lp rfl (p_fab fl28_0 rfl) ?_
  refine lp rfl (p_lbs ty26 rfl (j := 0) rfl rfl) ?_
  refine lp rfl (p_lenG hL0_0_ Tryz.underlying26 rfl (.ro 2 rfl)) ?_
  refine lp rfl (p_mv rfl) ?_
  refine lj_seq ?_
  refine cj_nil R3 ?_
  obtain ⟨f9, hf9, hm⟩ := bindS hm
  refine cj_range (γ := SV) (m := (a0.Items.length : Int)) hf9 nilS (fun u6 g7 => [(1, .pointer (some ⟨b1, 0, none⟩)), (2, .slice none 0 0), (3, .int .i64 0), (4, g7.v), (5, .int .i64 u6.1), (9, s0_0_.v)]) (fun u6 g7 => Sat w0 (keys ([] : List Ent)) A [.box b1 28 [s0_0_.v, .int .i64 a0.Change, .int .i64 a0.Clap, .int .i64 a0.Break, .int .i64 a0.Half], .ro (Lk N57 a0.Items xg0_0_), .ro (RdS N57.R (SV.v s0_0_) xg0_0_), .row R3 (SV.v g7) u6.2]) ⟨rfl, rfl, rfl, rfl, rfl, rfl, rfl, rfl, trivial⟩ (fun _ h => h.picks [1, 1, 1, 0] rfl) (nat_lt _) (fun _ h => by have h1 := (FactAt.get (F := RdS N57.R (SV.v s0_0_) xg0_0_) (.ro 3 rfl) h).1; rw [lk_len hL0_0_] at h1; exact h1) (fun _ _ => ⟨rfl, rfl, rfl, rfl⟩) ⟨rfl, rfl, rfl, rfl, rfl⟩ rfl rfl rfl (fun u6 g7 e => ?_) (fun aftk8 i2 x3 u6 g7 k8 hx4 hs J hJk8 hBk8 hX I cnk8 => ?_)
  · have hm := Flow.fin_b e hm
    refine nj_seq ?_
    refine cj_seq ?_
    refine cj_reg ?_
    refine lp rfl (p_mv rfl) ?_
    refine lp rfl (p_mv rfl) ?_
    refine lp rfl (p_as rfl) ?_
    refine lp rfl (p_as rfl) ?_
    refine lj_seq ?_
    obtain rfl := Option.some.inj hm
    exact cj_rt g7 [3] Tryz.results58 (.tmp rfl (.tmp rfl .nil)) rfl rfl
  · have hRk8 : ∀ t, k8 = .ret t → some t = some r := fun t e => by rw [hX t e] at hm; exact hm
    have hm := hs
    refine cj_seq ?_
    refine cj_reg ?_
    refine lp rfl (p_mv rfl) ?_
    obtain ⟨gx3, hx4G⟩ := lk_get hL0_0_ hx4
    refine lp rfl (p_idx Tryz.underlying26 ty57 rfl rfl (.ro 2 rfl) (getI_nat.trans hx4G)) ?_
    refine lp rfl (p_leaN (cs := [.string x3.Key, .string x3.Places, .int .i64 x3.Long, gx3.v]) ty57 rfl (.ro 2 rfl) hx4G rfl) ?_
    refine r_al ty57 rfl (fun b11 => ?_)
    refine lp rfl (p_as rfl) ?_
    refine r_sb (vs := [.string x3.Key, .string x3.Places, .int .i64 x3.Long, gx3.v]) (j := 0) ty57 rfl rfl rfl rfl rfl rfl rfl ?_
    refine lj_seq ?_
    refine cj_seq ?_
    refine cj_reg ?_
    refine lp rfl (p_mv rfl) ?_
    refine lp rfl (p_mv rfl) ?_
    refine r_bs R3 [u6.1] rfl rfl rfl (fun _ => by kernel_rfl) rfl (fun s12 => ?_)
    obtain ⟨q13, hq13, hm⟩ := bindS hm
    refine r_app (k := 5) Tryz.underlying22 ty3 rfl rfl rfl rfl (.row 0 rfl) hq13 rfl (fun s14 => ?_)
    refine lp rfl (p_as rfl) ?_
    refine lj_seq ?_
    refine cj_seq ?_
    refine cj_reg ?_
    refine lp rfl (p_mv rfl) ?_
    refine lp rfl (p_fab fl57_2 rfl) ?_
    refine lp rfl (p_lbs ty3 rfl (j := 1) rfl rfl) ?_
    refine lp rfl (p_add rfl rfl) ?_
    refine lp rfl (p_as rfl) ?_
    refine lj_seq ?_
    refine cj_seq ?_
    refine cj_reg ?_
    refine lp rfl (p_mv rfl) ?_
    refine lp rfl (p_add rfl rfl) ?_
    refine lp rfl (p_fab fl28_0 rfl) ?_
    refine lp rfl (p_lbs ty26 rfl (j := 2) rfl rfl) ?_
    refine lp rfl (p_lenG hL0_0_ Tryz.underlying26 rfl (.ro 4 rfl)) ?_
    refine lp rfl (p_lss rfl rfl) ?_
    refine lj_seq ?_
    refine cj_if (b := decide ((w64 ((i2 : Int) + 1)) < (a0.Items.length : Int))) rfl (fun hb => ?_) (fun hb => ?_)
    · have hm := ifB_t hb hm
      refine cj_reg ?_
      refine lp rfl (p_mv rfl) ?_
      refine lp rfl (p_lbw ty28 rfl (j := 2) rfl rfl) ?_
      refine lp rfl (p_mv rfl) ?_
      obtain ⟨y15, hy15, hm⟩ := bindS hm
      refine r_call [] cf91 rfl rfl (ok_concert_behind a0 s0_0_ xg0_0_ (i2 : Int) hy15) rfl rfl (.cons (.ro 3 rfl) (.cons (.ro 4 rfl) .nil)) (fun _ => rfl) rfl (fun _ => ?_)
      refine lp rfl (p_add rfl rfl) ?_
      refine lp rfl (p_as rfl) ?_
      refine lj_nil ?_
      refine nj_blk ?_
      exact cnk8 _ _ (w64 ((w64 (u6.1 + x3.Long)) + y15), q13) s14 (hJk8 _ (Option.some.inj hm).symm) ⟨rfl, rfl, rfl, rfl, rfl, rfl, rfl, rfl, trivial⟩ (fun _ h => h.picks [2, 2, 2, 2] rfl)
    · have hm := ifB_f hb hm
      refine cj_skip ?_
      refine nj_blk ?_
      exact cnk8 _ _ (w64 (u6.1 + x3.Long), q13) s14 (hJk8 _ (Option.some.inj hm).symm) ⟨rfl, rfl, rfl, rfl, rfl, rfl, rfl, rfl, trivial⟩ (fun _ h => h.picks [2, 2, 2, 2] rfl)
theorem ok_concert_tiredIn (a0 : TProgram) (s0_0_ : SV) (xg0_0_ : List (TItem × SV)) (a1 : ByteArray) (a2 : Int) (a3 : Int) {r : Int} (hm : m_concert_tiredIn a0 a1 a2 a3 = some r) :
    Ctr Tryz.prog 35 [.agg [s0_0_.v, .int .i64 a0.Change, .int .i64 a0.Clap, .int .i64 a0.Break, .int .i64 a0.Half].toArray, .string a1, .int .i64 a2, .int .i64 a3].toArray ([] : List Ent) [Lk N57 a0.Items xg0_0_, RdS N57.R (SV.v s0_0_) xg0_0_] (X := Unit) (fun _ => .int .i64 r) (fun _ => []) := by
  unfold m_concert_tiredIn at hm
  refine ctr_mk (vs := [(0, .agg [s0_0_.v, .int .i64 a0.Change, .int .i64 a0.Clap, .int .i64 a0.Break, .int .i64 a0.Half].toArray), (1, .string a1), (2, .int .i64 a2), (3, .int .i64 a3)]) Tryz.func35 rfl Tryz.ntmps35 rfl ⟨rfl, rfl, rfl, rfl, trivial⟩ (fun w0 A => ?_)
  refine cj_pure (F := Lk N57 a0.Items xg0_0_) (.ro 0 rfl) (fun _ h => h.1) (fun hL0_0_ => ?_)
  refine cj_seq ?_
  refine cj_reg ?_
  refine r_bx (cs := [s0_0_.v, .int .i64 a0.Change, .int .i64 a0.Clap, .int .i64 a0.Break, .int .i64 a0.Half]) rfl rfl rfl (fun b1 => ?_)
  refine lp rfl (p_as rfl) ?_
  refine lj_seq ?_
  refine cj_seq ?_
  refine cj_reg ?_
  refine lp rfl (p_lbw ty28 rfl (j := 0) rfl rfl) ?_
  obtain ⟨y2, hy2, hm⟩ := bindS hm
  refine r_call [] cf58 rfl rfl (ok_concert_begins a0 s0_0_ xg0_0_ hy2) rfl rfl (.cons (.ro 1 rfl) (.cons (.ro 2 rfl) .nil)) (fun _ => rfl) rfl (fun s3 => ?_)
  refine lp rfl (p_mv rfl) ?_
  refine lp rfl (p_ext rfl rfl) ?_
  refine lp rfl (p_ext rfl rfl) ?_
  refine lp rfl (p_as rfl) ?_
  refine lp rfl (p_as rfl) ?_
  refine lj_seq ?_
  refine cj_seq ?_
  refine cj_reg ?_
  refine lp rfl (p_as rfl) ?_
  refine lp rfl (p_as rfl) ?_
  refine lj_seq ?_
  refine cj_seq ?_
  refine cj_seq ?_
  refine cj_reg ?_
  refine lp rfl (p_fab fl28_0 rfl) ?_
  refine lp rfl (p_lbs ty26 rfl (j := 1) rfl rfl) ?_
  refine lp rfl (p_lenG hL0_0_ Tryz.underlying26 rfl (.ro 3 rfl)) ?_
  refine lp rfl (p_mv rfl) ?_
  refine lj_seq ?_
  obtain ⟨f10, hf10, hm⟩ := bindS hm
  refine cj_range (γ := Unit) (m := (a0.Items.length : Int)) hf10 () (fun u7 g8 => [(1, .string a1), (2, .int .i64 a2), (3, .int .i64 a3), (8, .int .i64 0), (9, s3.v), (11, .int .i64 u7.1), (12, .int .i64 u7.2), (21, s0_0_.v)]) (fun u7 g8 => Sat w0 (keys ([] : List Ent)) A [.row R3 (SV.v s3) y2.1, .ro (Lk N57 a0.Items xg0_0_), .ro (RdS N57.R (SV.v s0_0_) xg0_0_)]) ⟨rfl, rfl, rfl, rfl, rfl, rfl, rfl, rfl, rfl, rfl, trivial⟩ (fun _ h => h.picks [0, 1, 1] rfl) (nat_lt _) (fun _ h => by have h1 := (FactAt.get (F := RdS N57.R (SV.v s0_0_) xg0_0_) (.ro 3 rfl) h).1; rw [lk_len hL0_0_] at h1; exact h1) (fun _ _ => ⟨rfl, rfl, rfl, rfl⟩) ⟨rfl, rfl, rfl, rfl, rfl⟩ rfl rfl rfl (fun u7 g8 e => ?_) (fun aftk9 i4 x5 u7 g8 k9 hx6 hs J hJk9 hBk9 hX I cnk9 => ?_)
  · have hm := Flow.fin_b e hm
    refine nj_seq ?_
    refine cj_seq ?_
    refine cj_reg ?_
    refine lp rfl (p_as rfl) ?_
    refine lj_seq ?_
    obtain rfl := Option.some.inj hm
    exact cj_rt () [] Tryz.results35 (.tmp rfl .nil) rfl rfl
  · have hRk9 : ∀ t, k9 = .ret t → some t = some r := fun t e => by rw [hX t e] at hm; exact hm
    have hm := hs
    refine cj_seq ?_
    refine cj_reg ?_
    refine lp rfl (p_mv rfl) ?_
    obtain ⟨gx5, hx6G⟩ := lk_get hL0_0_ hx6
    refine lp rfl (p_idx Tryz.underlying26 ty57 rfl rfl (.ro 2 rfl) (getI_nat.trans hx6G)) ?_
    refine lp rfl (p_leaN (cs := [.string x5.Key, .string x5.Places, .int .i64 x5.Long, gx5.v]) ty57 rfl (.ro 2 rfl) hx6G rfl) ?_
    refine r_al ty57 rfl (fun b11 => ?_)
    refine lp rfl (p_as rfl) ?_
    refine r_sb (vs := [.string x5.Key, .string x5.Places, .int .i64 x5.Long, gx5.v]) (j := 0) ty57 rfl rfl rfl rfl rfl rfl rfl ?_
    refine lj_seq ?_
    refine cj_seq ?_
    refine cj_seq ?_
    refine cj_reg ?_
    refine lp rfl (p_fab fl57_3 rfl) ?_
    refine lp rfl (p_lbs ty55 rfl (j := 0) rfl rfl) ?_
    refine lp rfl (p_mv rfl) ?_
    obtain ⟨y12, hy12, hm⟩ := bindS hm
    refine r_call [] cf32 rfl rfl (ok_slices_Contains_string_string gx5 x5.Parts a1 hy12) rfl rfl (.cons (.imp (.ro 2 rfl) (fun _ h => (Lk.at_ h hx6G))) .nil) (fun _ => rfl) rfl (fun _ => ?_)
    refine lp rfl (p_not rfl) ?_
    refine lj_seq ?_
    refine cj_if (b := !y12) rfl (fun hb => ?_) (fun hb => ?_)
    · have hm := ifB_t hb hm
      refine cj_exit rfl ?_
      exact cnk9 _ _ (u7.1, u7.2) () (hJk9 _ (Option.some.inj hm).symm) ⟨rfl, rfl, rfl, rfl, rfl, rfl, rfl, rfl, rfl, rfl, trivial⟩ (fun _ h => h.picks [1, 1, 1] rfl)
    · have hm := ifB_f hb hm
      refine cj_skip ?_
      refine nj_seq ?_
      refine cj_seq ?_
      refine cj_seq ?_
      refine cj_reg ?_
      refine lp rfl (p_mv rfl) ?_
      refine lp rfl (p_mv rfl) ?_
      obtain ⟨e13, he13, hm⟩ := bindS hm
      refine lp rfl (p_idx Tryz.underlying22 ty3 rfl rfl (.row 1 rfl) he13) ?_
      refine lp rfl (p_lde (o := 0) ty3 rfl rfl (.row 1 rfl) (getI_spec he13).2 rfl) ?_
      refine lp rfl (p_mv rfl) ?_
      refine lp rfl (p_sub rfl rfl) ?_
      refine lp rfl (p_mv rfl) ?_
      refine lp rfl (p_geq rfl rfl) ?_
      refine lj_seq ?_
      obtain ⟨k16, hk16, hm⟩ := bindS hm
      have hRk16 : ∀ t, k16 = .inr t → some t = some k9 := fun t e => by rw [e] at hm; exact hm
      refine cj_joinK (σ := Int) (γ := Unit) (fun u14 => k16 = .inl u14) (fun u14 g15 => [(1, .string a1), (2, .int .i64 a2), (3, .int .i64 a3), (8, .int .i64 0), (9, s3.v), (11, .int .i64 u14), (12, .int .i64 u7.2), (13, .int .i64 (i4 : Int)), (14, .pointer (some ⟨b11, 0, none⟩)), (21, s0_0_.v), (22, .int .i64 (a0.Items.length : Int)), (23, .int .i64 (i4 : Int))]) (fun u14 g15 => Sat w0 (keys ([] : List Ent)) A [.box b11 57 [.string x5.Key, .string x5.Places, .int .i64 x5.Long, gx5.v], .row R3 (SV.v s3) y2.1, .ro (Lk N57 a0.Items xg0_0_), .ro (RdS N57.R (SV.v s0_0_) xg0_0_)]) (fun u14 g15 hq => ?_) (fun J cnk16 => ?_)
      · have hm := Sum.fin_l hq hm
        refine cj_seq ?_
        refine cj_reg ?_
        refine lp rfl (p_mv rfl) ?_
        refine lp rfl (p_fab fl57_2 rfl) ?_
        refine lp rfl (p_lbs ty3 rfl (j := 0) rfl rfl) ?_
        refine lp rfl (p_add rfl rfl) ?_
        refine lp rfl (p_as rfl) ?_
        refine lj_seq ?_
        refine cj_seq ?_
        refine cj_quiet (by kernel_rfl) (by kernel_rfl) ?_
        refine q_p rfl (p_mv rfl) ?_
        refine q_p rfl (p_mv rfl) ?_
        obtain ⟨e17, he17, hm⟩ := bindS hm
        refine q_p rfl (p_idx Tryz.underlying22 ty3 rfl rfl (.row 1 rfl) he17) ?_
        refine q_p rfl (p_lde (o := 0) ty3 rfl rfl (.row 1 rfl) (getI_spec he17).2 rfl) ?_
        refine q_p rfl (p_fab fl57_2 rfl) ?_
        refine q_p rfl (p_lbs ty3 rfl (j := 0) rfl rfl) ?_
        refine q_p rfl (p_add rfl rfl) ?_
        refine q_p rfl (p_as rfl) ?_
        refine q_nil ?_
        refine nj_seq ?_
        refine cj_seq ?_
        refine cj_reg ?_
        refine lp rfl (p_mv rfl) ?_
        refine lp rfl (p_mv rfl) ?_
        refine lp rfl (p_gtr rfl rfl) ?_
        refine lj_seq ?_
        refine cj_if (b := decide ((w64 (u14 + x5.Long)) > a2)) rfl (fun hb => ?_) (fun hb => ?_)
        · have hm := ifB_t hb hm
          refine cj_seq ?_
          refine cj_reg ?_
          refine lp rfl (p_mv rfl) ?_
          refine lp rfl (p_as rfl) ?_
          refine lj_seq ?_
          have hm := hRk9 _ (Option.some.inj hm).symm
          obtain rfl := Option.some.inj hm
          exact cj_rt () [] Tryz.results35 (.tmp rfl .nil) rfl rfl
        · have hm := ifB_f hb hm
          refine cj_skip ?_
          refine nj_blk ?_
          exact cnk9 _ _ (w64 (u14 + x5.Long), w64 (e17 + x5.Long)) () (hJk9 _ (Option.some.inj hm).symm) ⟨rfl, rfl, rfl, rfl, rfl, rfl, rfl, rfl, rfl, rfl, trivial⟩ (fun _ h => h.picks [1, 1, 1] rfl)
      · have hm := hk16
        refine cj_if (b := decide ((w64 (e13 - u7.2)) ≥ a3)) rfl (fun hb => ?_) (fun hb => ?_)
        · have hm := ifB_t hb hm
          refine cj_reg ?_
          refine lp rfl (p_as rfl) ?_
          refine lj_nil ?_
          exact cnk16 _ _ 0 () (Option.some.inj hm).symm ⟨rfl, rfl, rfl, rfl, rfl, rfl, rfl, rfl, rfl, rfl, rfl, rfl, trivial⟩ (fun _ h => h.picks [0, 0, 0, 0] rfl)
        · have hm := ifB_f hb hm
          refine cj_skip ?_
          exact cnk16 _ _ u7.1 () (Option.some.inj hm).symm ⟨rfl, rfl, rfl, rfl, rfl, rfl, rfl, rfl, rfl, rfl, rfl, rfl, trivial⟩ (fun _ h => h.picks [0, 0, 0, 0] rfl)
theorem ok_concert_Tired (a0 : TProgram) (s0_0_ : SV) (xg0_0_ : List (TItem × SV)) (a1 : Int) (a2 : Int) {r : (List TPair) × Int} (hm : m_concert_Tired a0 a1 a2 = some r) :
    Ctr Tryz.prog 9 [.agg [s0_0_.v, .int .i64 a0.Change, .int .i64 a0.Clap, .int .i64 a0.Break, .int .i64 a0.Half].toArray, .int .i64 a1, .int .i64 a2].toArray ([] : List Ent) [Lk N57 a0.Items xg0_0_, RdS N57.R (SV.v s0_0_) xg0_0_] (X := SV) (fun s => .tuple [s.v, .int .i64 r.2].toArray) (fun s => [.row R48 (SV.v s) r.1]) := by
  unfold m_concert_Tired at hm
  refine ctr_mk (vs := [(0, .agg [s0_0_.v, .int .i64 a0.Change, .int .i64 a0.Clap, .int .i64 a0.Break, .int .i64 a0.Half].toArray), (1, .int .i64 a1), (2, .int .i64 a2)]) Tryz.func9 rfl Tryz.ntmps9 rfl ⟨rfl, rfl, rfl, trivial⟩ (fun w0 A => ?_)
  refine cj_pure (F := Lk N57 a0.Items xg0_0_) (.ro 0 rfl) (fun _ h => h.1) (fun hL0_0_ => ?_)
  refine cj_seq ?_
  refine cj_reg ?_
  refine r_bx (cs := [s0_0_.v, .int .i64 a0.Change, .int .i64 a0.Clap, .int .i64 a0.Break, .int .i64 a0.Half]) rfl rfl rfl (fun b1 => ?_)
  refine lp rfl (p_as rfl) ?_
  refine lp rfl (p_as rfl) ?_
  refine lj_seq ?_
  refine cj_seq ?_
  refine cj_seq ?_
  refine cj_reg ?_
  refine lp rfl (p_lbw ty28 rfl (j := 0) rfl rfl) ?_
  obtain ⟨y2, hy2, hm⟩ := bindS hm
  refine r_call [] cf24 rfl rfl (ok_concert_CheckProgram a0 s0_0_ xg0_0_ hy2) rfl rfl (.cons (.ro 1 rfl) (.cons (.ro 2 rfl) .nil)) (fun _ => rfl) rfl (fun _ => ?_)
  refine lp rfl (p_as rfl) ?_
  refine lj_seq ?_
  refine cj_seq ?_
  refine cj_reg ?_
  refine lp rfl (p_mv rfl) ?_
  refine lp rfl (p_neq rfl rfl) ?_
  refine lj_seq ?_
  refine cj_if (b := y2 != 0) rfl (fun hb => ?_) (fun hb => ?_)
  · have hm := ifB_t hb hm
    refine cj_seq ?_
    refine cj_reg ?_
    refine lp rfl (p_mv rfl) ?_
    refine lp rfl (p_as rfl) ?_
    refine lp rfl (p_as rfl) ?_
    refine lj_seq ?_
    obtain rfl := Option.some.inj hm
    refine cj_nil R48 ?_
    exact cj_rt nilS [0] Tryz.results9 (.tmp rfl (.tmp rfl .nil)) rfl rfl
  · have hm := ifB_f hb hm
    refine cj_skip ?_
    refine nj_seq ?_
    refine cj_seq ?_
    refine cj_seq ?_
    refine cj_reg ?_
    obtain ⟨k6, hk6, hm⟩ := bindS hm
    have hRk6 : ∀ t, k6 = .inr t → some t = some r := fun t e => by rw [e] at hm; exact hm
    refine lj_join (σ := Bool) (γ := Unit) (fun u4 => k6 = .inl u4) (fun u4 g5 => [(1, .int .i64 a1), (2, .int .i64 a2), (3, .pointer (some ⟨b1, 0, none⟩)), (6, .slice none 0 0), (7, .int .i64 0), (23, .bool u4)]) (fun u4 g5 => Sat w0 (keys ([] : List Ent)) A [.box b1 28 [s0_0_.v, .int .i64 a0.Change, .int .i64 a0.Clap, .int .i64 a0.Break, .int .i64 a0.Half], .ro (Lk N57 a0.Items xg0_0_), .ro (RdS N57.R (SV.v s0_0_) xg0_0_)]) (fun u4 g5 hq => ?_) (fun J cnk6 => ?_)
    · have hm := Sum.fin_l hq hm
      refine cj_if (b := u4) rfl (fun hb => ?_) (fun hb => ?_)
      · have hm := ifB_t hb hm
        refine cj_seq ?_
        refine cj_reg ?_
        refine lp rfl (p_as rfl) ?_
        refine lp rfl (p_as rfl) ?_
        refine lj_seq ?_
        obtain rfl := Option.some.inj hm
        refine cj_nil R48 ?_
        exact cj_rt nilS [0] Tryz.results9 (.tmp rfl (.tmp rfl .nil)) rfl rfl
      · have hm := ifB_f hb hm
        refine cj_skip ?_
        refine nj_seq ?_
        refine cj_seq ?_
        refine cj_reg ?_
        refine lp rfl (p_as rfl) ?_
        refine lj_seq ?_
        refine cj_seq ?_
        refine cj_seq ?_
        refine cj_reg ?_
        refine lp rfl (p_lbw ty28 rfl (j := 0) rfl rfl) ?_
        obtain ⟨y10, hy10, hm⟩ := bindS hm
        refine r_call [] cf34 rfl rfl (ok_concert_partsOf a0 s0_0_ xg0_0_ hy10) rfl rfl (.cons (.ro 1 rfl) (.cons (.ro 2 rfl) .nil)) (fun _ => rfl) rfl (fun s11 => ?_)
        refine lp rfl (p_len Tryz.underlying55 rfl (.row 0 rfl)) ?_
        refine lp rfl (p_mv rfl) ?_
        refine lj_seq ?_
        refine cj_nil R48 ?_
        obtain ⟨f19, hf19, hm⟩ := bindS hm
        refine cj_range (γ := SV) (m := (y10.length : Int)) hf19 nilS (fun u16 g17 => [(1, .int .i64 a1), (2, .int .i64 a2), (3, .pointer (some ⟨b1, 0, none⟩)), (6, .slice none 0 0), (7, .int .i64 0), (9, g17.v), (25, s11.v)]) (fun u16 g17 => Sat w0 (keys ([] : List Ent)) A [.row R9 (SV.v s11) y10, .box b1 28 [s0_0_.v, .int .i64 a0.Change, .int .i64 a0.Clap, .int .i64 a0.Break, .int .i64 a0.Half], .ro (Lk N57 a0.Items xg0_0_), .ro (RdS N57.R (SV.v s0_0_) xg0_0_), .row R48 (SV.v g17) u16]) ⟨rfl, rfl, rfl, rfl, rfl, rfl, rfl, rfl, rfl, trivial⟩ (fun _ h => h.picks [1, 1, 1, 1, 0] rfl) (nat_lt _) (fun _ h => (FactAt.get (F := RdS R9 (SV.v s11) y10) (.row 1 rfl) h).1) (fun _ _ => ⟨rfl, rfl, rfl, rfl⟩) ⟨rfl, rfl, rfl, rfl, rfl⟩ rfl rfl rfl (fun u16 g17 e => ?_) (fun aftk18 i12 x13 u16 g17 k18 hx14 hs J hJk18 hBk18 hX I cnk18 => ?_)
        · have hm := Flow.fin_b e hm
          refine nj_seq ?_
          refine cj_seq ?_
          refine cj_reg ?_
          refine lp rfl (p_mv rfl) ?_
          refine lp rfl (p_as rfl) ?_
          refine lp rfl (p_as rfl) ?_
          refine lj_seq ?_
          obtain rfl := Option.some.inj hm
          exact cj_rt g17 [4] Tryz.results9 (.tmp rfl (.tmp rfl .nil)) rfl rfl
        · have hRk18 : ∀ t, k18 = .ret t → some t = some r := fun t e => by rw [hX t e] at hm; exact hm
          have hm := hs
          refine cj_seq ?_
          refine cj_reg ?_
          refine lp rfl (p_idx Tryz.underlying55 ty9 rfl rfl (.row 0 rfl) (getI_nat.trans hx14)) ?_
          refine lp rfl (p_lde (o := 0) ty9 rfl rfl (.row 0 rfl) hx14 rfl) ?_
          refine lp rfl (p_as rfl) ?_
          refine lj_seq ?_
          refine cj_seq ?_
          refine cj_reg ?_
          refine lp rfl (p_lbw ty28 rfl (j := 1) rfl rfl) ?_
          refine lp rfl (p_mv rfl) ?_
          refine lp rfl (p_mv rfl) ?_
          refine lp rfl (p_mv rfl) ?_
          obtain ⟨y21, hy21, hm⟩ := bindS hm
          refine r_call [] cf35 rfl rfl (ok_concert_tiredIn a0 s0_0_ xg0_0_ x13 a1 a2 hy21) rfl rfl (.cons (.ro 2 rfl) (.cons (.ro 3 rfl) .nil)) (fun _ => rfl) rfl (fun _ => ?_)
          refine lp rfl (p_as rfl) ?_
          refine lj_seq ?_
          refine cj_seq ?_
          refine cj_reg ?_
          refine lp rfl (p_mv rfl) ?_
          refine lp rfl (p_geq rfl rfl) ?_
          refine lj_seq ?_
          refine cj_if (b := decide (y21 ≥ 0)) rfl (fun hb => ?_) (fun hb => ?_)
          · have hm := ifB_t hb hm
            refine cj_reg ?_
            refine lp rfl (p_mv rfl) ?_
            refine lp rfl (p_mv rfl) ?_
            refine lp rfl (p_fab fl28_0 rfl) ?_
            refine lp rfl (p_lbs ty26 rfl (j := 1) rfl rfl) ?_
            refine lp rfl (p_mv rfl) ?_
            obtain ⟨e22, he22, hm⟩ := bindS hm
            obtain ⟨ge22, he22G⟩ := lk_getI hL0_0_ he22
            refine lp rfl (p_idx Tryz.underlying26 ty57 rfl rfl (.ro 3 rfl) he22G) ?_
            refine lp rfl (p_fae fl57_0 rfl (.ro 3 rfl) (getI_spec he22G).2) ?_
            refine lp rfl (p_lde (o := 0) ty9 rfl rfl (.ro 3 rfl) (getI_spec he22G).2 rfl) ?_
            refine lp rfl (p_bld [.string x13, .string e22.Key] rfl (fun _ => by kernel_rfl)) ?_
            refine r_bs R48 [(TPair.mk x13 e22.Key)] rfl rfl rfl (fun _ => by kernel_rfl) rfl (fun s23 => ?_)
            obtain ⟨q24, hq24, hm⟩ := bindS hm
            refine r_app (k := 5) Tryz.underlying32 ty48 rfl rfl rfl rfl (.row 0 rfl) hq24 rfl (fun s25 => ?_)
            refine lp rfl (p_as rfl) ?_
            refine lj_nil ?_
            refine nj_blk ?_
            exact cnk18 _ _ q24 s25 (hJk18 _ (Option.some.inj hm).symm) ⟨rfl, rfl, rfl, rfl, rfl, rfl, rfl, rfl, rfl, trivial⟩ (fun _ h => h.picks [1, 1, 1, 1, 1] rfl)
          · have hm := ifB_f hb hm
            refine cj_skip ?_
            refine nj_blk ?_
            exact cnk18 _ _ u16 g17 (hJk18 _ (Option.some.inj hm).symm) ⟨rfl, rfl, rfl, rfl, rfl, rfl, rfl, rfl, rfl, trivial⟩ (fun _ h => h.picks [0, 0, 0, 0, 0] rfl)
    · have hm := hk6
      refine lp rfl (p_mv rfl) ?_
      obtain ⟨y7, hy7, hm⟩ := bindS hm
      refine r_call [] cf33 rfl rfl (ok_kit_Outside a1 1 86400000 hy7) rfl rfl .nil (fun _ => rfl) rfl (fun _ => ?_)
      refine lp rfl (p_mv rfl) ?_
      refine lcase (i := 20) y7 rfl (fun hb => ?_) (fun hb => ?_)
      · have hm := ifB_t hb hm
        refine ls false rfl rfl rfl rfl ?_
        refine ls false rfl rfl rfl rfl ?_
        refine lp rfl (p_pkt rfl rfl) ?_
        refine lj_nil ?_
        exact cnk6 _ _ true () (Option.some.inj hm).symm ⟨rfl, rfl, rfl, rfl, rfl, rfl, trivial⟩ (fun _ h => h.picks [0, 0, 0] rfl)
      · have hm := ifB_f hb hm
        refine lg false rfl rfl rfl ?_
        refine lp rfl (p_mv rfl) ?_
        refine lg false rfl rfl rfl ?_
        obtain ⟨y8, hy8, hm⟩ := bindS hm
        refine r_call [] cf33 rfl rfl (ok_kit_Outside a2 1 86400000 hy8) rfl rfl .nil (fun _ => rfl) rfl (fun _ => ?_)
        refine lp rfl (p_pkf rfl rfl) ?_
        refine lj_nil ?_
        exact cnk6 _ _ y8 () (Option.some.inj hm).symm ⟨rfl, rfl, rfl, rfl, rfl, rfl, trivial⟩ (fun _ h => h.picks [0, 0, 0] rfl)
theorem ok_gleeref2_in (a0 : Int) (a1 : Int) (a2 : Int) {r : Bool} (hm : m_gleeref2_in a0 a1 a2 = some r) :
    Ctr Tryz.prog 37 [.int .i64 a0, .int .i64 a1, .int .i64 a2].toArray ([] : List Ent) [] (X := Unit) (fun _ => .bool r) (fun _ => []) := by
  unfold m_gleeref2_in at hm
  refine ctr_mk (vs := [(0, .int .i64 a0), (1, .int .i64 a1), (2, .int .i64 a2)]) Tryz.func37 rfl Tryz.ntmps37 rfl ⟨rfl, rfl, rfl, trivial⟩ (fun w0 A => ?_)
  refine cj_seq ?_
  refine cj_reg ?_
  refine lp rfl (p_as rfl) ?_
  refine lj_seq ?_
  refine cj_seq ?_
  refine cj_reg ?_
  refine lp rfl (p_mv rfl) ?_
  refine lp rfl (p_mv rfl) ?_
  refine lp rfl (p_leq rfl rfl) ?_
  refine lp rfl (p_mv rfl) ?_
  refine lcase (i := 10) (decide (a1 ≤ a0)) rfl (fun hb => ?_) (fun hb => ?_)
  · have hm := ifB_t hb hm
    refine lg true rfl rfl rfl ?_
    refine lp rfl (p_mv rfl) ?_
    refine lg true rfl rfl rfl ?_
    refine lp rfl (p_mv rfl) ?_
    refine lg true rfl rfl rfl ?_
    refine lp rfl (p_leq rfl rfl) ?_
    refine lp rfl (p_pkt rfl rfl) ?_
    refine lp rfl (p_as rfl) ?_
    refine lj_seq ?_
    obtain rfl := Option.some.inj hm
    exact cj_rt () [] Tryz.results37 (.tmp rfl .nil) rfl rfl
  · have hm := ifB_f hb hm
    refine ls true rfl rfl rfl rfl ?_
    refine ls true rfl rfl rfl rfl ?_
    refine ls true rfl rfl rfl rfl ?_
    refine lp rfl (p_pkf rfl rfl) ?_
    refine lp rfl (p_as rfl) ?_
    refine lj_seq ?_
    obtain rfl := Option.some.inj hm
    exact cj_rt () [] Tryz.results37 (.tmp rfl .nil) rfl rfl
theorem ok_gleeref2_only (a0 : ByteArray) (a1 : ByteArray) {r : Bool} (hm : m_gleeref2_only a0 a1 = some r) :
    Ctr Tryz.prog 61 [.string a0, .string a1].toArray ([] : List Ent) [] (X := Unit) (fun _ => .bool r) (fun _ => []) := by
  unfold m_gleeref2_only at hm
  refine ctr_mk (vs := [(0, .string a0), (1, .string a1)]) Tryz.func61 rfl Tryz.ntmps61 rfl ⟨rfl, rfl, trivial⟩ (fun w0 A => ?_)
  refine cj_seq ?_
  refine cj_reg ?_
  refine lp rfl (p_as rfl) ?_
  refine lj_seq ?_
  refine cj_seq ?_
  refine cj_seq ?_
  refine cj_reg ?_
  refine lp rfl (p_mv rfl) ?_
  refine lp rfl (p_lens Tryz.underlying9 rfl) ?_
  refine lp rfl (p_mv rfl) ?_
  refine lj_seq ?_
  obtain ⟨L10, hL10, hm⟩ := bindS hm
  obtain ⟨f7, hf7, hm⟩ := bindS hm
  refine cj_range (γ := Unit) (m := (a0.size : Int)) hf7 () (fun u4 g5 => [(0, .string a0), (1, .string a1), (4, .bool false)]) (fun u4 g5 => Sat w0 (keys ([] : List Ent)) A []) ⟨rfl, rfl, rfl, rfl, rfl, trivial⟩ (fun _ h => h.picks [] rfl) (rangeI_spec hL10).1 (fun _ _ => (rangeI_spec hL10).2) (fun _ _ => ⟨rfl, rfl, rfl, rfl⟩) ⟨rfl, rfl, rfl, rfl, rfl⟩ rfl rfl rfl (fun u4 g5 e => ?_) (fun aftk6 i1 x2 u4 g5 k6 hx3 hs J hJk6 hBk6 hX I cnk6 => ?_)
  · have hm := Flow.fin_b e hm
    refine nj_seq ?_
    refine cj_seq ?_
    refine cj_reg ?_
    refine lp rfl (p_as rfl) ?_
    refine lj_seq ?_
    obtain rfl := Option.some.inj hm
    exact cj_rt () [] Tryz.results61 (.tmp rfl .nil) rfl rfl
  · have hRk6 : ∀ t, k6 = .ret t → some t = some r := fun t e => by rw [hX t e] at hm; exact hm
    have hm := hs
    refine cj_seq ?_
    refine cj_reg ?_
    refine lp rfl (p_mv rfl) ?_
    refine lp rfl (p_as rfl) ?_
    refine lj_seq ?_
    refine cj_seq ?_
    refine cj_reg ?_
    refine lp rfl (p_mv rfl) ?_
    refine lp rfl (p_mv rfl) ?_
    refine lp rfl (p_mv rfl) ?_
    obtain ⟨c8, hc8, hm⟩ := bindS hm
    refine lp rfl (p_stri Tryz.underlying9 rfl rfl hc8) ?_
    obtain ⟨y9, hy9, hm⟩ := bindS hm
    refine r_call [] cf53 rfl rfl (ok_strings_IndexByte a1 c8 hy9) rfl rfl .nil (fun _ => rfl) rfl (fun _ => ?_)
    refine lp rfl (p_lss rfl rfl) ?_
    refine lj_seq ?_
    refine cj_if (b := decide (y9 < 0)) rfl (fun hb => ?_) (fun hb => ?_)
    · have hm := ifB_t hb hm
      refine cj_seq ?_
      refine cj_reg ?_
      refine lp rfl (p_as rfl) ?_
      refine lj_seq ?_
      have hm := hRk6 _ (Option.some.inj hm).symm
      obtain rfl := Option.some.inj hm
      exact cj_rt () [] Tryz.results61 (.tmp rfl .nil) rfl rfl
    · have hm := ifB_f hb hm
      refine cj_skip ?_
      refine nj_blk ?_
      exact cnk6 _ _ () () (hJk6 _ (Option.some.inj hm).symm) ⟨rfl, rfl, rfl, rfl, rfl, trivial⟩ (fun _ h => h.picks [] rfl)
theorem ok_gleeref2_Key (a0 : ByteArray) {r : Bool} (hm : m_gleeref2_Key a0 = some r) :
    Ctr Tryz.prog 38 [.string a0].toArray ([] : List Ent) [] (X := Unit) (fun _ => .bool r) (fun _ => []) := by
  unfold m_gleeref2_Key at hm
  refine ctr_mk (vs := [(0, .string a0)]) Tryz.func38 rfl Tryz.ntmps38 rfl ⟨rfl, trivial⟩ (fun w0 A => ?_)
  refine cj_seq ?_
  refine cj_reg ?_
  refine lp rfl (p_as rfl) ?_
  refine lj_seq ?_
  refine cj_seq ?_
  refine cj_reg ?_
  refine lp rfl (p_mv rfl) ?_
  refine lp rfl (p_lens Tryz.underlying9 rfl) ?_
  obtain ⟨y1, hy1, hm⟩ := bindS hm
  refine r_call [] cf37 rfl rfl (ok_gleeref2_in (a0.size : Int) 1 40 hy1) rfl rfl .nil (fun _ => rfl) rfl (fun _ => ?_)
  refine lp rfl (p_mv rfl) ?_
  refine lcase (i := 6) y1 rfl (fun hb => ?_) (fun hb => ?_)
  · have hm := ifB_t hb hm
    refine lg true rfl rfl rfl ?_
    refine lp rfl (p_mv rfl) ?_
    refine lg true rfl rfl rfl ?_
    obtain ⟨c2, hc2, hm⟩ := bindS hm
    refine lp rfl (p_strs Tryz.underlying9 rfl rfl rfl rfl rfl rfl rfl hc2) ?_
    refine lg true rfl rfl rfl ?_
    obtain ⟨y3, hy3, hm⟩ := bindS hm
    refine r_call [] cf61 rfl rfl (ok_gleeref2_only c2 (ByteArray.mk [97, 98, 99, 100, 101, 102, 103, 104, 105, 106, 107, 108, 109, 110, 111, 112, 113, 114, 115, 116, 117, 118, 119, 120, 121, 122].toArray) hy3) rfl rfl .nil (fun _ => rfl) rfl (fun _ => ?_)
    refine lp rfl (p_pkt rfl rfl) ?_
    refine lp rfl (p_mv rfl) ?_
    refine lcase (i := 11) y3 rfl (fun hb => ?_) (fun hb => ?_)
    · have hm := ifB_t hb hm
      refine lg true rfl rfl rfl ?_
      refine lp rfl (p_mv rfl) ?_
      refine lg true rfl rfl rfl ?_
      obtain ⟨y4, hy4, hm⟩ := bindS hm
      refine r_call [] cf61 rfl rfl (ok_gleeref2_only a0 (ByteArray.mk [97, 98, 99, 100, 101, 102, 103, 104, 105, 106, 107, 108, 109, 110, 111, 112, 113, 114, 115, 116, 117, 118, 119, 120, 121, 122, 48, 49, 50, 51, 52, 53, 54, 55, 56, 57, 45, 95].toArray) hy4) rfl rfl .nil (fun _ => rfl) rfl (fun _ => ?_)
      refine lp rfl (p_pkt rfl rfl) ?_
      refine lp rfl (p_as rfl) ?_
      refine lj_seq ?_
      obtain rfl := Option.some.inj hm
      exact cj_rt () [] Tryz.results38 (.tmp rfl .nil) rfl rfl
    · have hm := ifB_f hb hm
      refine ls true rfl rfl rfl rfl ?_
      refine ls true rfl rfl rfl rfl ?_
      refine lp rfl (p_pkf rfl rfl) ?_
      refine lp rfl (p_as rfl) ?_
      refine lj_seq ?_
      obtain rfl := Option.some.inj hm
      exact cj_rt () [] Tryz.results38 (.tmp rfl .nil) rfl rfl
  · have hm := ifB_f hb hm
    refine ls true rfl rfl rfl rfl ?_
    refine ls true rfl rfl rfl rfl ?_
    refine ls true rfl rfl rfl rfl ?_
    refine lp rfl (p_pkf rfl rfl) ?_
    refine lp rfl (p_mv rfl) ?_
    refine ls true rfl rfl rfl rfl ?_
    refine ls true rfl rfl rfl rfl ?_
    refine lp rfl (p_pkf rfl rfl) ?_
    refine lp rfl (p_as rfl) ?_
    refine lj_seq ?_
    obtain rfl := Option.some.inj hm
    exact cj_rt () [] Tryz.results38 (.tmp rfl .nil) rfl rfl
theorem ok_gleeref2_ItemAt_1 (a0 : TItem) (s0_3_ : SV) (b1_ : Nat) (a1_0 : ByteArray) {r : Bool} (hm : m_gleeref2_ItemAt_1 a0 a1_0 = some r) :
    Ctr Tryz.prog 93 [.agg [.string a0.Key, .string a0.Places, .int .i64 a0.Long, s0_3_.v].toArray, .pointer (some ⟨b1_, 0, none⟩)].toArray ([] : List Ent) [RdS R9 (SV.v s0_3_) a0.Parts, BoxS b1_ 9 [.string a1_0]] (X := Unit) (fun _ => .bool r) (fun _ => []) := by
  unfold m_gleeref2_ItemAt_1 at hm
  refine ctr_mk (vs := [(0, .agg [.string a0.Key, .string a0.Places, .int .i64 a0.Long, s0_3_.v].toArray), (1, .pointer (some ⟨b1_, 0, none⟩))]) Tryz.func93 rfl Tryz.ntmps93 rfl ⟨rfl, rfl, trivial⟩ (fun w0 A => ?_)
  refine cj_seq ?_
  refine cj_reg ?_
  refine r_bx (cs := [.string a0.Key, .string a0.Places, .int .i64 a0.Long, s0_3_.v]) rfl rfl rfl (fun b1 => ?_)
  refine lp rfl (p_as rfl) ?_
  refine lj_seq ?_
  refine cj_seq ?_
  refine cj_reg ?_
  refine lp rfl (p_fab fl57_0 rfl) ?_
  refine lp rfl (p_lbs ty9 rfl (j := 0) rfl rfl) ?_
  refine lp rfl (p_rbs ty9 rfl (.ro 2 rfl) rfl) ?_
  refine lp rfl (p_eqs rfl rfl) ?_
  refine lp rfl (p_as rfl) ?_
  refine lj_seq ?_
  obtain rfl := Option.some.inj hm
  exact cj_rt () [] Tryz.results93 (.tmp rfl .nil) rfl rfl
theorem ok_slices_IndexFunc_api_Item_api_Item__gleeref2_ItemAt_1 (s0_ : SV) (xg0_ : List (TItem × SV)) (a0 : (List TItem)) (b1_c0_ : Nat) (a1_c0_0 : ByteArray) {r : Int} (hm : m_slices_IndexFunc_api_Item_api_Item__gleeref2_ItemAt_1 a0 a1_c0_0 = some r) :
    Ctr Tryz.prog 92 [s0_.v, .func (.func 93) #[] [.pointer (some ⟨b1_c0_, 0, none⟩)].toArray].toArray ([] : List Ent) [Lk N57 a0 xg0_, RdS N57.R (SV.v s0_) xg0_, BoxS b1_c0_ 9 [.string a1_c0_0]] (X := Unit) (fun _ => .int .i64 r) (fun _ => []) := by
  unfold m_slices_IndexFunc_api_Item_api_Item__gleeref2_ItemAt_1 at hm
  refine ctr_mk (vs := [(0, s0_.v), (1, .func (.func 93) #[] [.pointer (some ⟨b1_c0_, 0, none⟩)].toArray)]) Tryz.func92 rfl Tryz.ntmps92 rfl ⟨rfl, rfl, trivial⟩ (fun w0 A => ?_)
  refine cj_pure (F := Lk N57 a0 xg0_) (.ro 0 rfl) (fun _ h => h.1) (fun hL0_ => ?_)
  refine cj_seq ?_
  refine cj_reg ?_
  refine lp rfl (p_as rfl) ?_
  refine lj_seq ?_
  refine cj_seq ?_
  refine cj_seq ?_
  refine cj_reg ?_
  refine lp rfl (p_mv rfl) ?_
  refine lp rfl (p_lenG hL0_ Tryz.underlying26 rfl (.ro 1 rfl)) ?_
  refine lp rfl (p_mv rfl) ?_
  refine lj_seq ?_
  obtain ⟨f7, hf7, hm⟩ := bindS hm
  refine cj_range (γ := Unit) (m := (a0.length : Int)) hf7 () (fun u4 g5 => [(0, s0_.v), (1, .func (.func 93) #[] [.pointer (some ⟨b1_c0_, 0, none⟩)].toArray), (4, .int .i64 0)]) (fun u4 g5 => Sat w0 (keys ([] : List Ent)) A [.ro (Lk N57 a0 xg0_), .ro (RdS N57.R (SV.v s0_) xg0_), .ro (BoxS b1_c0_ 9 [.string a1_c0_0])]) ⟨rfl, rfl, rfl, rfl, rfl, trivial⟩ (fun _ h => h.picks [0, 0, 0] rfl) (nat_lt _) (fun _ h => by have h1 := (FactAt.get (F := RdS N57.R (SV.v s0_) xg0_) (.ro 1 rfl) h).1; rw [lk_len hL0_] at h1; exact h1) (fun _ _ => ⟨rfl, rfl, rfl, rfl⟩) ⟨rfl, rfl, rfl, rfl, rfl⟩ rfl rfl rfl (fun u4 g5 e => ?_) (fun aftk6 i1 x2 u4 g5 k6 hx3 hs J hJk6 hBk6 hX I cnk6 => ?_)
  · have hm := Flow.fin_b e hm
    refine nj_seq ?_
    refine cj_seq ?_
    refine cj_reg ?_
    refine lp rfl (p_as rfl) ?_
    refine lj_seq ?_
    obtain rfl := Option.some.inj hm
    exact cj_rt () [] Tryz.results92 (.tmp rfl .nil) rfl rfl
  · have hRk6 : ∀ t, k6 = .ret t → some t = some r := fun t e => by rw [hX t e] at hm; exact hm
    have hm := hs
    refine cj_seq ?_
    refine cj_reg ?_
    refine lp rfl (p_mv rfl) ?_
    refine lp rfl (p_as rfl) ?_
    refine lj_seq ?_
    refine cj_seq ?_
    refine cj_reg ?_
    refine lp rfl (p_mv rfl) ?_
    refine lp rfl (p_mv rfl) ?_
    refine lp rfl (p_mv rfl) ?_
    obtain ⟨gx2, hx3G⟩ := lk_get hL0_ hx3
    refine lp rfl (p_idx Tryz.underlying26 ty57 rfl rfl (.ro 1 rfl) (getI_nat.trans hx3G)) ?_
    refine lp rfl (p_leaN (cs := [.string x2.Key, .string x2.Places, .int .i64 x2.Long, gx2.v]) ty57 rfl (.ro 1 rfl) hx3G rfl) ?_
    obtain ⟨y8, hy8, hm⟩ := bindS hm
    refine r_call [] cf93 rfl rfl (ok_gleeref2_ItemAt_1 x2 gx2 b1_c0_ a1_c0_0 hy8) rfl rfl (.cons (.imp (.ro 0 rfl) (fun _ h => (Lk.at_ h hx3G))) (.cons (.ro 2 rfl) .nil)) (fun _ => rfl) rfl (fun _ => ?_)
    refine lj_seq ?_
    refine cj_if (b := y8) rfl (fun hb => ?_) (fun hb => ?_)
    · have hm := ifB_t hb hm
      refine cj_seq ?_
      refine cj_reg ?_
      refine lp rfl (p_mv rfl) ?_
      refine lp rfl (p_as rfl) ?_
      refine lj_seq ?_
      have hm := hRk6 _ (Option.some.inj hm).symm
      obtain rfl := Option.some.inj hm
      exact cj_rt () [] Tryz.results92 (.tmp rfl .nil) rfl rfl
    · have hm := ifB_f hb hm
      refine cj_skip ?_
      refine nj_blk ?_
      exact cnk6 _ _ () () (hJk6 _ (Option.some.inj hm).symm) ⟨rfl, rfl, rfl, rfl, rfl, trivial⟩ (fun _ h => h.picks [0, 0, 0] rfl)
theorem ok_gleeref2_ItemAt (s0_ : SV) (xg0_ : List (TItem × SV)) (a0 : (List TItem)) (a1 : ByteArray) {r : Int} (hm : m_gleeref2_ItemAt a0 a1 = some r) :
    Ctr Tryz.prog 59 [s0_.v, .string a1].toArray ([] : List Ent) [Lk N57 a0 xg0_, RdS N57.R (SV.v s0_) xg0_] (X := Unit) (fun _ => .int .i64 r) (fun _ => []) := by
  unfold m_gleeref2_ItemAt at hm
  refine ctr_mk (vs := [(0, s0_.v), (1, .string a1)]) Tryz.func59 rfl Tryz.ntmps59 rfl ⟨rfl, rfl, trivial⟩ (fun w0 A => ?_)
  refine cj_pure (F := Lk N57 a0 xg0_) (.ro 0 rfl) (fun _ h => h.1) (fun hL0_ => ?_)
  refine cj_seq ?_
  refine cj_reg ?_
  refine r_bx (cs := [.string a1]) rfl rfl rfl (fun b1 => ?_)
  refine lp rfl (p_as rfl) ?_
  refine lj_seq ?_
  refine cj_seq ?_
  refine cj_reg ?_
  refine lp rfl (p_mv rfl) ?_
  refine lp rfl (p_fn (cv := [.pointer (some ⟨b1, 0, none⟩)]) rfl) ?_
  obtain ⟨y2, hy2, hm⟩ := bindS hm
  refine r_call [] cf92 rfl rfl (ok_slices_IndexFunc_api_Item_api_Item__gleeref2_ItemAt_1 s0_ xg0_ a0 b1 a1 hy2) rfl rfl (.cons (.ro 1 rfl) (.cons (.ro 2 rfl) (.cons (.imp (.box 0 rfl) (fun _ h => h)) .nil))) (fun _ => rfl) rfl (fun _ => ?_)
  refine lp rfl (p_as rfl) ?_
  refine lj_seq ?_
  obtain rfl := Option.some.inj hm
  exact cj_rt () [] Tryz.results59 (.tmp rfl .nil) rfl rfl
theorem ok_gleeref2_Rising (s0_ : SV) (a0 : (List ByteArray)) {r : Int} (hm : m_gleeref2_Rising a0 = some r) :
    Ctr Tryz.prog 60 [s0_.v].toArray ([] : List Ent) [RdS R9 (SV.v s0_) a0] (X := Unit) (fun _ => .int .i64 r) (fun _ => []) := by
  unfold m_gleeref2_Rising at hm
  refine ctr_mk (vs := [(0, s0_.v)]) Tryz.func60 rfl Tryz.ntmps60 rfl ⟨rfl, trivial⟩ (fun w0 A => ?_)
  refine cj_seq ?_
  refine cj_reg ?_
  refine lp rfl (p_as rfl) ?_
  refine lj_seq ?_
  refine cj_seq ?_
  refine cj_seq ?_
  refine cj_reg ?_
  refine lp rfl (p_mv rfl) ?_
  refine lp rfl (p_len Tryz.underlying55 rfl (.ro 0 rfl)) ?_
  refine lp rfl (p_mv rfl) ?_
  refine lj_seq ?_
  obtain ⟨f7, hf7, hm⟩ := bindS hm
  refine cj_range (γ := Unit) (m := (a0.length : Int)) hf7 () (fun u4 g5 => [(0, s0_.v), (2, .int .i64 0), (5, s0_.v)]) (fun u4 g5 => Sat w0 (keys ([] : List Ent)) A [.ro (RdS R9 (SV.v s0_) a0)]) ⟨rfl, rfl, rfl, rfl, rfl, trivial⟩ (fun _ h => h.picks [0] rfl) (nat_lt _) (fun _ h => (FactAt.get (F := RdS R9 (SV.v s0_) a0) (.ro 0 rfl) h).1) (fun _ _ => ⟨rfl, rfl, rfl, rfl⟩) ⟨rfl, rfl, rfl, rfl, rfl⟩ rfl rfl rfl (fun u4 g5 e => ?_) (fun aftk6 i1 x2 u4 g5 k6 hx3 hs J hJk6 hBk6 hX I cnk6 => ?_)
  · have hm := Flow.fin_b e hm
    refine nj_seq ?_
    refine cj_seq ?_
    refine cj_reg ?_
    refine lp rfl (p_as rfl) ?_
    refine lj_seq ?_
    obtain rfl := Option.some.inj hm
    exact cj_rt () [] Tryz.results60 (.tmp rfl .nil) rfl rfl
  · have hRk6 : ∀ t, k6 = .ret t → some t = some r := fun t e => by rw [hX t e] at hm; exact hm
    have hm := hs
    refine cj_seq ?_
    refine cj_reg ?_
    refine lp rfl (p_mv rfl) ?_
    refine lp rfl (p_idx Tryz.underlying55 ty9 rfl rfl (.ro 0 rfl) (getI_nat.trans hx3)) ?_
    refine lp rfl (p_lde (o := 0) ty9 rfl rfl (.ro 0 rfl) hx3 rfl) ?_
    refine lp rfl (p_as rfl) ?_
    refine lp rfl (p_as rfl) ?_
    refine lj_seq ?_
    refine cj_seq ?_
    refine cj_seq ?_
    refine cj_reg ?_
    refine lp rfl (p_mv rfl) ?_
    obtain ⟨y8, hy8, hm⟩ := bindS hm
    refine r_call [] cf38 rfl rfl (ok_gleeref2_Key x2 hy8) rfl rfl .nil (fun _ => rfl) rfl (fun _ => ?_)
    refine lp rfl (p_not rfl) ?_
    refine lj_seq ?_
    refine cj_if (b := !y8) rfl (fun hb => ?_) (fun hb => ?_)
    · have hm := ifB_t hb hm
      refine cj_seq ?_
      refine cj_reg ?_
      refine lp rfl (p_as rfl) ?_
      refine lj_seq ?_
      have hm := hRk6 _ (Option.some.inj hm).symm
      obtain rfl := Option.some.inj hm
      exact cj_rt () [] Tryz.results60 (.tmp rfl .nil) rfl rfl
    · have hm := ifB_f hb hm
      refine cj_skip ?_
      refine nj_seq ?_
      refine cj_seq ?_
      refine cj_reg ?_
      obtain ⟨k11, hk11, hm⟩ := bindS hm
      have hRk11 : ∀ t, k11 = .inr t → some t = some k6 := fun t e => by rw [e] at hm; exact hm
      refine lj_join (σ := Bool) (γ := Unit) (fun u9 => k11 = .inl u9) (fun u9 g10 => [(0, s0_.v), (2, .int .i64 0), (5, s0_.v), (6, .int .i64 (a0.length : Int)), (7, .int .i64 (i1 : Int)), (25, .bool u9)]) (fun u9 g10 => Sat w0 (keys ([] : List Ent)) A [.ro (RdS R9 (SV.v s0_) a0)]) (fun u9 g10 hq => ?_) (fun J cnk11 => ?_)
      · have hm := Sum.fin_l hq hm
        refine cj_if (b := u9) rfl (fun hb => ?_) (fun hb => ?_)
        · have hm := ifB_t hb hm
          refine cj_seq ?_
          refine cj_reg ?_
          refine lp rfl (p_as rfl) ?_
          refine lj_seq ?_
          have hm := hRk6 _ (Option.some.inj hm).symm
          obtain rfl := Option.some.inj hm
          exact cj_rt () [] Tryz.results60 (.tmp rfl .nil) rfl rfl
        · have hm := ifB_f hb hm
          refine cj_skip ?_
          refine nj_blk ?_
          exact cnk6 _ _ () () (hJk6 _ (Option.some.inj hm).symm) ⟨rfl, rfl, rfl, rfl, rfl, trivial⟩ (fun _ h => h.picks [0] rfl)
      · have hm := hk11
        refine lp rfl (p_mv rfl) ?_
        refine lp rfl (p_gtr rfl rfl) ?_
        refine lp rfl (p_mv rfl) ?_
        refine lcase (i := 17) (decide ((i1 : Int) > 0)) rfl (fun hb => ?_) (fun hb => ?_)
        · have hm := ifB_t hb hm
          refine lg true rfl rfl rfl ?_
          refine lp rfl (p_mv rfl) ?_
          refine lg true rfl rfl rfl ?_
          refine lp rfl (p_mv rfl) ?_
          refine lg true rfl rfl rfl ?_
          refine lp rfl (p_mv rfl) ?_
          refine lg true rfl rfl rfl ?_
          refine lp rfl (p_sub rfl rfl) ?_
          refine lg true rfl rfl rfl ?_
          obtain ⟨e12, he12, hm⟩ := bindS hm
          refine lp rfl (p_idx Tryz.underlying55 ty9 rfl rfl (.ro 0 rfl) he12) ?_
          refine lg true rfl rfl rfl ?_
          refine lp rfl (p_lde (o := 0) ty9 rfl rfl (.ro 0 rfl) (getI_spec he12).2 rfl) ?_
          refine lg true rfl rfl rfl ?_
          refine lp rfl (p_les rfl rfl) ?_
          refine lp rfl (p_pkt rfl rfl) ?_
          refine lj_nil ?_
          exact cnk11 _ _ (Op.bytesLess x2.toList e12.toList || x2.toList == e12.toList) () (Option.some.inj hm).symm ⟨rfl, rfl, rfl, rfl, rfl, rfl, trivial⟩ (fun _ h => h.picks [0] rfl)
        · have hm := ifB_f hb hm
          refine ls true rfl rfl rfl rfl ?_
          refine ls true rfl rfl rfl rfl ?_
          refine ls true rfl rfl rfl rfl ?_
          refine ls true rfl rfl rfl rfl ?_
          refine ls true rfl rfl rfl rfl ?_
          refine ls true rfl rfl rfl rfl ?_
          refine ls true rfl rfl rfl rfl ?_
          refine lp rfl (p_pkf rfl rfl) ?_
          refine lj_nil ?_
          exact cnk11 _ _ false () (Option.some.inj hm).symm ⟨rfl, rfl, rfl, rfl, rfl, rfl, trivial⟩ (fun _ h => h.picks [0] rfl)
end Go.Proofs.YtaidgomipefeiaaGreatDoor
