/- The walks. Written by program. -/
import Derived.Test.YtnmaaiejcmgdkaaDoorW1
namespace Go.Proofs.YtnmaaiejcmgdkaaDoor
open Go Go.J Go.G
set_option maxRecDepth 100000
set_option linter.unusedVariables false
theorem ok_slices_IndexFunc_api_Tone_api_Tone__piece_Silent_1 (s0_ : SV) (a0 : (List TTone)) {r : Int} (hm : m_slices_IndexFunc_api_Tone_api_Tone__piece_Silent_1 a0 = some r) :
    Ctr Tryd.prog 91 [s0_.v, .func (.func 68) #[] [].toArray].toArray ([] : List Ent) [RdS R50 (SV.v s0_) a0] (X := Unit) (fun _ => .int .i64 r) (fun _ => []) := by
  unfold m_slices_IndexFunc_api_Tone_api_Tone__piece_Silent_1 at hm
  refine ctr_mk (vs := [(0, s0_.v), (1, .func (.func 68) #[] [].toArray)]) Tryd.func91 rfl Tryd.ntmps91 rfl ⟨rfl, rfl, trivial⟩ (fun w0 A => ?_)
  refine cj_seq ?_
  refine cj_reg ?_
  refine lp rfl (p_as rfl) ?_
  refine lj_seq ?_
  refine cj_seq ?_
  refine cj_seq ?_
  refine cj_reg ?_
  refine lp rfl (p_mv rfl) ?_
  refine lp rfl (p_len Tryd.underlying28 rfl (.ro 0 rfl)) ?_
  refine lp rfl (p_mv rfl) ?_
  refine lj_seq ?_
  obtain ⟨f7, hf7, hm⟩ := bindS hm
  refine cj_range (γ := Unit) (m := (a0.length : Int)) hf7 () (fun u4 g5 => [(0, s0_.v), (1, .func (.func 68) #[] [].toArray), (4, .int .i64 0)]) (fun u4 g5 => Sat w0 (keys ([] : List Ent)) A [.ro (RdS R50 (SV.v s0_) a0)]) ⟨rfl, rfl, rfl, rfl, rfl, trivial⟩ (fun _ h => h.picks [0] rfl) (nat_lt _) (fun _ h => (FactAt.get (F := RdS R50 (SV.v s0_) a0) (.ro 0 rfl) h).1) (fun _ _ => ⟨rfl, rfl, rfl, rfl⟩) ⟨rfl, rfl, rfl, rfl, rfl⟩ rfl rfl rfl (fun u4 g5 e => ?_) (fun aftk6 i1 x2 u4 g5 k6 hx3 hs J hJk6 hBk6 hX I cnk6 => ?_)
  · have hm := Flow.fin_b e hm
    refine nj_seq ?_
    refine cj_seq ?_
    refine cj_reg ?_
    refine lp rfl (p_as rfl) ?_
    refine lj_seq ?_
    obtain rfl := Option.some.inj hm
    exact cj_rt () [] Tryd.results91 (.tmp rfl .nil) rfl rfl
  · have hRk6 : ∀ t, k6 = .ret t → some t = some r := fun t e => by rw [hX t e] at hm; exact hm
    have hm := hs
    refine cj_seq ?_
    refine cj_reg ?_
    refine lp rfl (p_mv rfl) ?_
    refine lp rfl (p_as rfl) ?_
    refine lj_seq ?_
    refine cj_seq ?_
    refine cj_reg ?_
    refine lp rfl (p_mv rfl) ?_
    refine lp rfl (p_mv rfl) ?_
    refine lp rfl (p_mv rfl) ?_
    refine lp rfl (p_idx Tryd.underlying28 ty50 rfl rfl (.ro 0 rfl) (getI_nat.trans hx3)) ?_
    refine lp rfl (p_lea ty50 rfl (.ro 0 rfl) hx3) ?_
    obtain ⟨y8, hy8, hm⟩ := bindS hm
    refine r_call [] cf68 rfl rfl (ok_piece_Silent_1 x2 hy8) rfl rfl .nil (fun _ => rfl) rfl (fun _ => ?_)
    refine lj_seq ?_
    refine cj_if (b := y8) rfl (fun hb => ?_) (fun hb => ?_)
    · have hm := ifB_t hb hm
      refine cj_seq ?_
      refine cj_reg ?_
      refine lp rfl (p_mv rfl) ?_
      refine lp rfl (p_as rfl) ?_
      refine lj_seq ?_
      have hm := hRk6 _ (Option.some.inj hm).symm
      obtain rfl := Option.some.inj hm
      exact cj_rt () [] Tryd.results91 (.tmp rfl .nil) rfl rfl
    · have hm := ifB_f hb hm
      refine cj_skip ?_
      refine nj_blk ?_
      exact cnk6 _ _ () () (hJk6 _ (Option.some.inj hm).symm) ⟨rfl, rfl, rfl, rfl, rfl, trivial⟩ (fun _ h => h.picks [0] rfl)
theorem ok_slices_ContainsFunc_api_Tone_api_Tone__piece_Silent_1 (s0_ : SV) (a0 : (List TTone)) {r : Bool} (hm : m_slices_ContainsFunc_api_Tone_api_Tone__piece_Silent_1 a0 = some r) :
    Ctr Tryd.prog 67 [s0_.v, .func (.func 68) #[] [].toArray].toArray ([] : List Ent) [RdS R50 (SV.v s0_) a0] (X := Unit) (fun _ => .bool r) (fun _ => []) := by
  unfold m_slices_ContainsFunc_api_Tone_api_Tone__piece_Silent_1 at hm
  refine ctr_mk (vs := [(0, s0_.v), (1, .func (.func 68) #[] [].toArray)]) Tryd.func67 rfl Tryd.ntmps67 rfl ⟨rfl, rfl, trivial⟩ (fun w0 A => ?_)
  refine cj_seq ?_
  refine cj_reg ?_
  refine lp rfl (p_as rfl) ?_
  refine lj_seq ?_
  refine cj_seq ?_
  refine cj_reg ?_
  refine lp rfl (p_mv rfl) ?_
  refine lp rfl (p_mv rfl) ?_
  obtain ⟨y1, hy1, hm⟩ := bindS hm
  refine r_call [] cf91 rfl rfl (ok_slices_IndexFunc_api_Tone_api_Tone__piece_Silent_1 s0_ a0 hy1) rfl rfl (.cons (.ro 0 rfl) .nil) (fun _ => rfl) rfl (fun _ => ?_)
  refine lp rfl (p_geq rfl rfl) ?_
  refine lp rfl (p_as rfl) ?_
  refine lj_seq ?_
  obtain rfl := Option.some.inj hm
  exact cj_rt () [] Tryd.results67 (.tmp rfl .nil) rfl rfl
theorem ok_piece_Silent_2 (a0 : TRange) (b1_ : Nat) (a1_0 : Int) {r : Bool} (hm : m_piece_Silent_2 a0 a1_0 = some r) :
    Ctr Tryd.prog 70 [.agg (R37.enc a0).toArray, .pointer (some ⟨b1_, 0, none⟩)].toArray ([] : List Ent) [BoxS b1_ 3 [.int .i64 a1_0]] (X := Unit) (fun _ => .bool r) (fun _ => []) := by
  unfold m_piece_Silent_2 at hm
  refine ctr_mk (vs := [(0, .agg (R37.enc a0).toArray), (1, .pointer (some ⟨b1_, 0, none⟩))]) Tryd.func70 rfl Tryd.ntmps70 rfl ⟨rfl, rfl, trivial⟩ (fun w0 A => ?_)
  refine cj_seq ?_
  refine cj_reg ?_
  refine r_bx (cs := [.int .i64 a0.Low, .int .i64 a0.High]) rfl rfl rfl (fun b1 => ?_)
  refine lp rfl (p_as rfl) ?_
  refine lj_seq ?_
  refine cj_seq ?_
  refine cj_reg ?_
  refine lp rfl (p_fab fl37_1 rfl) ?_
  refine lp rfl (p_lbs ty3 rfl (j := 0) rfl rfl) ?_
  refine lp rfl (p_fab fl37_0 rfl) ?_
  refine lp rfl (p_lbs ty3 rfl (j := 0) rfl rfl) ?_
  refine lp rfl (p_sub rfl rfl) ?_
  refine lp rfl (p_add rfl rfl) ?_
  refine lp rfl (p_rbs ty3 rfl (.ro 1 rfl) rfl) ?_
  refine lp rfl (p_lss rfl rfl) ?_
  refine lp rfl (p_as rfl) ?_
  refine lj_seq ?_
  obtain rfl := Option.some.inj hm
  exact cj_rt () [] Tryd.results70 (.tmp rfl .nil) rfl rfl
theorem ok_slices_IndexFunc_api_Range_api_Range__piece_Silent_2 (s0_ : SV) (a0 : (List TRange)) (b1_c0_ : Nat) (a1_c0_0 : Int) {r : Int} (hm : m_slices_IndexFunc_api_Range_api_Range__piece_Silent_2 a0 a1_c0_0 = some r) :
    Ctr Tryd.prog 92 [s0_.v, .func (.func 70) #[] [.pointer (some ⟨b1_c0_, 0, none⟩)].toArray].toArray ([] : List Ent) [RdS R37 (SV.v s0_) a0, BoxS b1_c0_ 3 [.int .i64 a1_c0_0]] (X := Unit) (fun _ => .int .i64 r) (fun _ => []) := by
  unfold m_slices_IndexFunc_api_Range_api_Range__piece_Silent_2 at hm
  refine ctr_mk (vs := [(0, s0_.v), (1, .func (.func 70) #[] [.pointer (some ⟨b1_c0_, 0, none⟩)].toArray)]) Tryd.func92 rfl Tryd.ntmps92 rfl ⟨rfl, rfl, trivial⟩ (fun w0 A => ?_)
  refine cj_seq ?_
  refine cj_reg ?_
  refine lp rfl (p_as rfl) ?_
  refine lj_seq ?_
  refine cj_seq ?_
  refine cj_seq ?_
  refine cj_reg ?_
  refine lp rfl (p_mv rfl) ?_
  refine lp rfl (p_len Tryd.underlying61 rfl (.ro 0 rfl)) ?_
  refine lp rfl (p_mv rfl) ?_
  refine lj_seq ?_
  obtain ⟨f7, hf7, hm⟩ := bindS hm
  refine cj_range (γ := Unit) (m := (a0.length : Int)) hf7 () (fun u4 g5 => [(0, s0_.v), (1, .func (.func 70) #[] [.pointer (some ⟨b1_c0_, 0, none⟩)].toArray), (4, .int .i64 0)]) (fun u4 g5 => Sat w0 (keys ([] : List Ent)) A [.ro (RdS R37 (SV.v s0_) a0), .ro (BoxS b1_c0_ 3 [.int .i64 a1_c0_0])]) ⟨rfl, rfl, rfl, rfl, rfl, trivial⟩ (fun _ h => h.picks [0, 0] rfl) (nat_lt _) (fun _ h => (FactAt.get (F := RdS R37 (SV.v s0_) a0) (.ro 0 rfl) h).1) (fun _ _ => ⟨rfl, rfl, rfl, rfl⟩) ⟨rfl, rfl, rfl, rfl, rfl⟩ rfl rfl rfl (fun u4 g5 e => ?_) (fun aftk6 i1 x2 u4 g5 k6 hx3 hs J hJk6 hBk6 hX I cnk6 => ?_)
  · have hm := Flow.fin_b e hm
    refine nj_seq ?_
    refine cj_seq ?_
    refine cj_reg ?_
    refine lp rfl (p_as rfl) ?_
    refine lj_seq ?_
    obtain rfl := Option.some.inj hm
    exact cj_rt () [] Tryd.results92 (.tmp rfl .nil) rfl rfl
  · have hRk6 : ∀ t, k6 = .ret t → some t = some r := fun t e => by rw [hX t e] at hm; exact hm
    have hm := hs
    refine cj_seq ?_
    refine cj_reg ?_
    refine lp rfl (p_mv rfl) ?_
    refine lp rfl (p_as rfl) ?_
    refine lj_seq ?_
    refine cj_seq ?_
    refine cj_reg ?_
    refine lp rfl (p_mv rfl) ?_
    refine lp rfl (p_mv rfl) ?_
    refine lp rfl (p_mv rfl) ?_
    refine lp rfl (p_idx Tryd.underlying61 ty37 rfl rfl (.ro 0 rfl) (getI_nat.trans hx3)) ?_
    refine lp rfl (p_lea ty37 rfl (.ro 0 rfl) hx3) ?_
    obtain ⟨y8, hy8, hm⟩ := bindS hm
    refine r_call [] cf70 rfl rfl (ok_piece_Silent_2 x2 b1_c0_ a1_c0_0 hy8) rfl rfl (.cons (.ro 1 rfl) .nil) (fun _ => rfl) rfl (fun _ => ?_)
    refine lj_seq ?_
    refine cj_if (b := y8) rfl (fun hb => ?_) (fun hb => ?_)
    · have hm := ifB_t hb hm
      refine cj_seq ?_
      refine cj_reg ?_
      refine lp rfl (p_mv rfl) ?_
      refine lp rfl (p_as rfl) ?_
      refine lj_seq ?_
      have hm := hRk6 _ (Option.some.inj hm).symm
      obtain rfl := Option.some.inj hm
      exact cj_rt () [] Tryd.results92 (.tmp rfl .nil) rfl rfl
    · have hm := ifB_f hb hm
      refine cj_skip ?_
      refine nj_blk ?_
      exact cnk6 _ _ () () (hJk6 _ (Option.some.inj hm).symm) ⟨rfl, rfl, rfl, rfl, rfl, trivial⟩ (fun _ h => h.picks [0, 0] rfl)
theorem ok_slices_DeleteFunc_api_Range_api_Range__piece_Silent_2 (s0_ : SV) (a0 : (List TRange)) (b1_c0_ : Nat) (a1_c0_0 : Int) {r : (List TRange)} (hm : m_slices_DeleteFunc_api_Range_api_Range__piece_Silent_2 a0 a1_c0_0 = some r) :
    Ctr Tryd.prog 69 [s0_.v, .func (.func 70) #[] [.pointer (some ⟨b1_c0_, 0, none⟩)].toArray].toArray [.row R37 (SV.v s0_) a0] [BoxS b1_c0_ 3 [.int .i64 a1_c0_0]] (X := SV) (fun s => s.v) (fun s => [.row R37 (SV.v s) r]) := by
  unfold m_slices_DeleteFunc_api_Range_api_Range__piece_Silent_2 at hm
  refine ctr_mk (vs := [(0, s0_.v), (1, .func (.func 70) #[] [.pointer (some ⟨b1_c0_, 0, none⟩)].toArray)]) Tryd.func69 rfl Tryd.ntmps69 rfl ⟨rfl, rfl, trivial⟩ (fun w0 A => ?_)
  refine cj_seq ?_
  refine cj_reg ?_
  refine lp rfl (p_as rfl) ?_
  refine lj_seq ?_
  refine cj_seq ?_
  refine cj_reg ?_
  refine lp rfl (p_mv rfl) ?_
  refine lp rfl (p_mv rfl) ?_
  obtain ⟨y1, hy1, hm⟩ := bindS hm
  refine r_call [] cf92 rfl rfl (ok_slices_IndexFunc_api_Range_api_Range__piece_Silent_2 s0_ a0 b1_c0_ a1_c0_0 hy1) rfl rfl (.cons (.row 0 rfl) (.cons (.ro 1 rfl) .nil)) (fun _ => rfl) rfl (fun _ => ?_)
  refine lp rfl (p_as rfl) ?_
  refine lj_seq ?_
  refine cj_seq ?_
  refine cj_seq ?_
  refine cj_reg ?_
  refine lp rfl (p_mv rfl) ?_
  refine lp rfl (p_eql rfl rfl) ?_
  refine lj_seq ?_
  refine cj_if (b := y1 == (-1)) rfl (fun hb => ?_) (fun hb => ?_)
  · have hm := ifB_t hb hm
    refine cj_seq ?_
    refine cj_reg ?_
    refine lp rfl (p_mv rfl) ?_
    refine lp rfl (p_as rfl) ?_
    refine lj_seq ?_
    obtain rfl := Option.some.inj hm
    exact cj_rt s0_ [0] Tryd.results69 (.tmp rfl .nil) rfl rfl
  · have hm := ifB_f hb hm
    refine cj_skip ?_
    refine nj_seq ?_
    refine cj_seq ?_
    refine cj_seq ?_
    refine cj_reg ?_
    refine lp rfl (p_mv rfl) ?_
    refine lp rfl (p_add rfl rfl) ?_
    refine lp rfl (p_as rfl) ?_
    refine lj_seq ?_
    obtain ⟨f5, hf5, hm⟩ := bindS hm
    refine cj_whileA (γ := Unit) hf5 () (fun u2 g3 => [(0, s0_.v), (1, .func (.func 70) #[] [.pointer (some ⟨b1_c0_, 0, none⟩)].toArray), (4, .slice none 0 0), (5, .int .i64 u2.1), (6, .int .i64 u2.2.1)]) (fun u2 g3 => Sat w0 (keys [.row R37 (SV.v s0_) a0]) A [.ro (BoxS b1_c0_ 3 [.int .i64 a1_c0_0]), .row R37 (SV.v s0_) u2.2.2]) ⟨rfl, rfl, rfl, rfl, rfl, trivial⟩ (fun _ h => h.picks [1, 0] rfl) (fun u2 g3 e => ?_) (fun aftk4 u2 g3 k4 hs J hJk4 hBk4 hX I cnk4 => ?_)
    · have hm := Flow.fin_b e hm
      refine nj_seq ?_
      refine cj_seq ?_
      refine cj_reg ?_
      refine lp rfl (p_mv rfl) ?_
      refine lp rfl (p_mv rfl) ?_
      obtain ⟨q10, hq10, hm⟩ := bindS hm
      refine lp rfl (p_cut Tryd.underlying61 ty37 rfl rfl rfl rfl rfl (.row 1 rfl) rfl rfl hq10) ?_
      refine r_clear (k := 1) (TRange.mk 0 0) Tryd.underlying61 ty37 rfl rfl rfl hq10 rfl ?_
      refine lj_seq ?_
      refine cj_seq ?_
      refine cj_reg ?_
      refine lp rfl (p_mv rfl) ?_
      refine lp rfl (p_mv rfl) ?_
      obtain ⟨q11, hq11, hm⟩ := bindS hm
      refine lp rfl (p_cut Tryd.underlying61 ty37 rfl rfl rfl rfl rfl (.row 1 rfl) rfl rfl hq11) ?_
      refine lp rfl (p_as rfl) ?_
      refine lj_seq ?_
      obtain rfl := Option.some.inj hm
      refine cj_pre 1 rfl rfl hq11 ?_
      exact cj_rt (s0_.sub R37.sz (0 : Int).toNat u2.1.toNat) [1] Tryd.results69 (.tmp rfl .nil) rfl rfl
    · have hRk4 : ∀ t, k4 = .ret t → some t = some r := fun t e => by rw [hX t e] at hm; exact hm
      have hm := hs
      refine cj_seq ?_
      refine cj_seq ?_
      refine cj_reg ?_
      refine lp rfl (p_mv rfl) ?_
      refine lp rfl (p_mv rfl) ?_
      refine lp rfl (p_len Tryd.underlying61 rfl (.row 1 rfl)) ?_
      refine lp rfl (p_lss rfl rfl) ?_
      refine lj_seq ?_
      refine cj_if (b := decide (u2.2.1 < (u2.2.2.length : Int))) rfl (fun hb => ?_) (fun hb => ?_)
      · have hm := ifB_t hb hm
        refine cj_skip ?_
        refine nj_seq ?_
        refine cj_seq ?_
        refine cj_blk ?_
        refine cj_seq ?_
        refine cj_reg ?_
        refine lp rfl (p_mv rfl) ?_
        refine lp rfl (p_mv rfl) ?_
        obtain ⟨e6, he6, hm⟩ := bindS hm
        refine lp rfl (p_idx Tryd.underlying61 ty37 rfl rfl (.row 1 rfl) he6) ?_
        refine lp rfl (p_lea ty37 rfl (.row 1 rfl) (getI_spec he6).2) ?_
        refine r_al ty37 rfl (fun b7 => ?_)
        refine r_sb (vs := [.int .i64 e6.Low, .int .i64 e6.High]) (j := 0) ty37 rfl rfl rfl rfl rfl rfl rfl ?_
        refine lj_seq ?_
        refine cj_seq ?_
        refine cj_reg ?_
        refine lp rfl (p_mv rfl) ?_
        refine lp rfl (p_lbw ty37 rfl (j := 0) rfl rfl) ?_
        obtain ⟨y8, hy8, hm⟩ := bindS hm
        refine r_call [] cf70 rfl rfl (ok_piece_Silent_2 e6 b1_c0_ a1_c0_0 hy8) rfl rfl (.cons (.ro 1 rfl) .nil) (fun _ => rfl) rfl (fun _ => ?_)
        refine lp rfl (p_not rfl) ?_
        refine lj_seq ?_
        refine cj_if (b := !y8) rfl (fun hb => ?_) (fun hb => ?_)
        · have hm := ifB_t hb hm
          refine cj_seq ?_
          refine cj_reg ?_
          refine lp rfl (p_mv rfl) ?_
          refine lp rfl (p_mv rfl) ?_
          refine lp rfl (p_lbw ty37 rfl (j := 0) rfl rfl) ?_
          obtain ⟨e9, he9, hm⟩ := bindS hm
          refine lp rfl (p_idx Tryd.underlying61 ty37 rfl rfl (.row 2 rfl) he9) ?_
          refine r_ste (k := 2) (o := 0) (vs := [.int .i64 e6.Low, .int .i64 e6.High]) ty37 rfl rfl rfl rfl rfl rfl rfl (getI_spec he9).2 e6 rfl rfl ?_
          refine lj_seq ?_
          refine cj_reg ?_
          refine lp rfl (p_mv rfl) ?_
          refine lp rfl (p_add rfl rfl) ?_
          refine lp rfl (p_as rfl) ?_
          refine lj_nil ?_
          refine nj_blk ?_
          refine nj_seq ?_
          refine cj_reg ?_
          refine lp rfl (p_mv rfl) ?_
          refine lp rfl (p_add rfl rfl) ?_
          refine lp rfl (p_as rfl) ?_
          refine lj_nil ?_
          exact cnk4 _ _ (w64 (u2.1 + 1), w64 (u2.2.1 + 1), (u2.2.2.set u2.1.toNat e6)) () (hJk4 _ (Option.some.inj hm).symm) ⟨rfl, rfl, rfl, rfl, rfl, trivial⟩ (fun _ h => h.picks [1, 1] rfl)
        · have hm := ifB_f hb hm
          refine cj_skip ?_
          refine nj_blk ?_
          refine nj_seq ?_
          refine cj_reg ?_
          refine lp rfl (p_mv rfl) ?_
          refine lp rfl (p_add rfl rfl) ?_
          refine lp rfl (p_as rfl) ?_
          refine lj_nil ?_
          exact cnk4 _ _ (u2.1, w64 (u2.2.1 + 1), u2.2.2) () (hJk4 _ (Option.some.inj hm).symm) ⟨rfl, rfl, rfl, rfl, rfl, trivial⟩ (fun _ h => h.picks [1, 1] rfl)
      · have hm := ifB_f hb hm
        refine cj_exit rfl ?_
        exact (aftk4 (u2.1, u2.2.1, u2.2.2) () (hBk4 _ (Option.some.inj hm).symm)).sub ⟨rfl, rfl, rfl, rfl, rfl, trivial⟩ (fun _ h => h.picks [0, 0] rfl)
theorem ok_piece_Silent (s0_ : SV) (a0 : (List TBar)) (s1_ : SV) (a1 : (List TTone)) (a2 : Int) {r : (List TRange) × Int} (hm : m_piece_Silent a0 a1 a2 = some r) :
    Ctr Tryd.prog 25 [s0_.v, s1_.v, .int .i64 a2].toArray ([] : List Ent) [RdS R75 (SV.v s0_) a0, RdS R50 (SV.v s1_) a1, UtfT] (X := SV) (fun s => .tuple [s.v, .int .i64 r.2].toArray) (fun s => [.row R37 (SV.v s) r.1]) := by
  unfold m_piece_Silent at hm
  refine ctr_mk (vs := [(0, s0_.v), (1, s1_.v), (2, .int .i64 a2)]) Tryd.func25 rfl Tryd.ntmps25 rfl ⟨rfl, rfl, rfl, trivial⟩ (fun w0 A => ?_)
  refine cj_seq ?_
  refine cj_reg ?_
  refine r_bx (cs := [.int .i64 a2]) rfl rfl rfl (fun b1 => ?_)
  refine lp rfl (p_as rfl) ?_
  refine lp rfl (p_as rfl) ?_
  refine lj_seq ?_
  refine cj_seq ?_
  refine cj_seq ?_
  refine cj_reg ?_
  refine lp rfl (p_mv rfl) ?_
  refine lp rfl (p_mv rfl) ?_
  obtain ⟨y2, hy2, hm⟩ := bindS hm
  refine r_call [] cf12 rfl rfl (ok_piece_CheckTones s0_ a0 s1_ a1 hy2) rfl rfl (.cons (.ro 1 rfl) (.cons (.ro 2 rfl) (.cons (.ro 3 rfl) .nil))) (fun _ => rfl) rfl (fun _ => ?_)
  refine lp rfl (p_as rfl) ?_
  refine lj_seq ?_
  refine cj_seq ?_
  refine cj_reg ?_
  refine lp rfl (p_mv rfl) ?_
  refine lp rfl (p_neq rfl rfl) ?_
  refine lj_seq ?_
  refine cj_if (b := y2 != 0) rfl (fun hb => ?_) (fun hb => ?_)
  · have hm := ifB_t hb hm
    refine cj_seq ?_
    refine cj_reg ?_
    refine lp rfl (p_mv rfl) ?_
    refine lp rfl (p_as rfl) ?_
    refine lp rfl (p_as rfl) ?_
    refine lj_seq ?_
    obtain rfl := Option.some.inj hm
    refine cj_nil R37 ?_
    exact cj_rt nilS [0] Tryd.results25 (.tmp rfl (.tmp rfl .nil)) rfl rfl
  · have hm := ifB_f hb hm
    refine cj_skip ?_
    refine nj_seq ?_
    refine cj_seq ?_
    refine cj_seq ?_
    refine cj_reg ?_
    refine lp rfl (p_lbs ty3 rfl (j := 0) rfl rfl) ?_
    obtain ⟨y4, hy4, hm⟩ := bindS hm
    refine r_call [] cf60 rfl rfl (ok_kit_Outside a2 1 300 hy4) rfl rfl .nil (fun _ => rfl) rfl (fun _ => ?_)
    refine lj_seq ?_
    refine cj_if (b := y4) rfl (fun hb => ?_) (fun hb => ?_)
    · have hm := ifB_t hb hm
      refine cj_seq ?_
      refine cj_reg ?_
      refine lp rfl (p_as rfl) ?_
      refine lp rfl (p_as rfl) ?_
      refine lj_seq ?_
      obtain rfl := Option.some.inj hm
      refine cj_nil R37 ?_
      exact cj_rt nilS [0] Tryd.results25 (.tmp rfl (.tmp rfl .nil)) rfl rfl
    · have hm := ifB_f hb hm
      refine cj_skip ?_
      refine nj_seq ?_
      refine cj_seq ?_
      refine cj_reg ?_
      refine lp rfl (p_as rfl) ?_
      refine lj_seq ?_
      refine cj_seq ?_
      refine cj_seq ?_
      refine cj_reg ?_
      refine lp rfl (p_mv rfl) ?_
      refine lp rfl (p_mv rfl) ?_
      obtain ⟨y6, hy6, hm⟩ := bindS hm
      refine r_callN [] cf40 rfl rfl (ok_piece_inBars s0_ a0 s1_ a1 hy6) rfl rfl (.cons (.ro 1 rfl) (.cons (.ro 2 rfl) .nil)) rfl (fun ⟨s7, xg8⟩ => ?_)
      refine r_pure (F := Lk N28 y6 xg8) (.ro 1 rfl) (fun _ h => h.1) (fun hLs7 => ?_)
      refine lp rfl (p_lenG hLs7 Tryd.underlying30 rfl (.row 0 rfl)) ?_
      refine lp rfl (p_mv rfl) ?_
      refine lj_seq ?_
      refine cj_nil R37 ?_
      obtain ⟨f16, hf16, hm⟩ := bindS hm
      refine cj_range (γ := SV) (m := (y6.length : Int)) hf16 nilS (fun u13 g14 => [(5, .pointer (some ⟨b1, 0, none⟩)), (6, .slice none 0 0), (7, .int .i64 0), (9, g14.v), (23, s7.v)]) (fun u13 g14 => Sat w0 (keys ([] : List Ent)) A [.row N28.R (SV.v s7) xg8, .ro (Lk N28 y6 xg8), .box b1 3 [.int .i64 a2], .ro UtfT, .row R37 (SV.v g14) u13]) ⟨rfl, rfl, rfl, rfl, rfl, rfl, rfl, trivial⟩ (fun _ h => h.picks [1, 1, 1, 3, 0] rfl) (nat_lt _) (fun _ h => by have h1 := (FactAt.get (F := RdS N28.R (SV.v s7) xg8) (.row 1 rfl) h).1; rw [lk_len hLs7] at h1; exact h1) (fun _ _ => ⟨rfl, rfl, rfl, rfl⟩) ⟨rfl, rfl, rfl, rfl, rfl⟩ rfl rfl rfl (fun u13 g14 e => ?_) (fun aftk15 i9 x10 u13 g14 k15 hx11 hs J hJk15 hBk15 hX I cnk15 => ?_)
      · have hm := Flow.fin_b e hm
        refine nj_seq ?_
        refine cj_seq ?_
        refine cj_reg ?_
        refine lp rfl (p_mv rfl) ?_
        refine lp rfl (p_fn (cv := [.pointer (some ⟨b1, 0, none⟩)]) rfl) ?_
        obtain ⟨y28, hy28, hm⟩ := bindS hm
        refine r_call [4] cf69 rfl rfl (ok_slices_DeleteFunc_api_Range_api_Range__piece_Silent_2 g14 u13 b1 a2 hy28) rfl rfl (.cons (.imp (.box 2 rfl) (fun _ h => h)) .nil) (fun _ => rfl) rfl (fun s29 => ?_)
        refine lp rfl (p_as rfl) ?_
        refine lp rfl (p_as rfl) ?_
        refine lj_seq ?_
        obtain rfl := Option.some.inj hm
        exact cj_rt s29 [0] Tryd.results25 (.tmp rfl (.tmp rfl .nil)) rfl rfl
      · have hRk15 : ∀ t, k15 = .ret t → some t = some r := fun t e => by rw [hX t e] at hm; exact hm
        have hm := hs
        refine cj_seq ?_
        refine cj_reg ?_
        refine lp rfl (p_mv rfl) ?_
        obtain ⟨gx10, hx11G⟩ := lk_get hLs7 hx11
        refine lp rfl (p_idx Tryd.underlying30 ty28 rfl rfl (.row 0 rfl) (getI_nat.trans hx11G)) ?_
        refine lp rfl (p_lde (o := 0) ty28 rfl rfl (.row 0 rfl) hx11G rfl) ?_
        refine lp rfl (p_as rfl) ?_
        refine lp rfl (p_as rfl) ?_
        refine lj_seq ?_
        refine cj_seq ?_
        refine cj_seq ?_
        refine cj_reg ?_
        refine lp rfl (p_mv rfl) ?_
        obtain ⟨y18, hy18, hm⟩ := bindS hm
        refine r_call [] cf67 rfl rfl (ok_slices_ContainsFunc_api_Tone_api_Tone__piece_Silent_1 gx10 x10 hy18) rfl rfl (.cons (.imp (.ro 1 rfl) (fun _ h => (Lk.at_ h hx11G))) .nil) (fun _ => rfl) rfl (fun _ => ?_)
        refine lj_seq ?_
        refine cj_if (b := y18) rfl (fun hb => ?_) (fun hb => ?_)
        · have hm := ifB_t hb hm
          refine cj_exit rfl ?_
          exact cnk15 _ _ u13 g14 (hJk15 _ (Option.some.inj hm).symm) ⟨rfl, rfl, rfl, rfl, rfl, rfl, rfl, trivial⟩ (fun _ h => h.picks [0, 0, 0, 0, 0] rfl)
        · have hm := ifB_f hb hm
          refine cj_skip ?_
          refine nj_seq ?_
          refine cj_seq ?_
          refine cj_reg ?_
          refine lp rfl (p_mv rfl) ?_
          refine lp rfl (p_len Tryd.underlying61 rfl (.row 4 rfl)) ?_
          refine lp rfl (p_sub rfl rfl) ?_
          refine lp rfl (p_as rfl) ?_
          refine lj_seq ?_
          refine cj_seq ?_
          refine cj_reg ?_
          obtain ⟨k21, hk21, hm⟩ := bindS hm
          have hRk21 : ∀ t, k21 = .inr t → some t = some k15 := fun t e => by rw [e] at hm; exact hm
          refine lj_join (σ := Bool) (γ := Unit) (fun u19 => k21 = .inl u19) (fun u19 g20 => [(5, .pointer (some ⟨b1, 0, none⟩)), (6, .slice none 0 0), (7, .int .i64 0), (9, g14.v), (10, .int .i64 (i9 : Int)), (12, .int .i64 (w64 ((u13.length : Int) - 1))), (23, s7.v), (24, .int .i64 (y6.length : Int)), (25, .int .i64 (i9 : Int)), (46, .bool u19)]) (fun u19 g20 => Sat w0 (keys ([] : List Ent)) A [.row N28.R (SV.v s7) xg8, .ro (Lk N28 y6 xg8), .box b1 3 [.int .i64 a2], .ro UtfT, .row R37 (SV.v g14) u13]) (fun u19 g20 hq => ?_) (fun J cnk21 => ?_)
          · have hm := Sum.fin_l hq hm
            refine cj_if (b := u19) rfl (fun hb => ?_) (fun hb => ?_)
            · have hm := ifB_t hb hm
              refine cj_reg ?_
              refine lp rfl (p_mv rfl) ?_
              refine lp rfl (p_mv rfl) ?_
              refine lp rfl (p_mv rfl) ?_
              obtain ⟨e23, he23, hm⟩ := bindS hm
              refine lp rfl (p_idx Tryd.underlying61 ty37 rfl rfl (.row 4 rfl) he23) ?_
              refine lp rfl (p_fae fl37_1 rfl (.row 4 rfl) (getI_spec he23).2) ?_
              refine r_ste (k := 4) (o := 1) (vs := [.int .i64 (i9 : Int)]) ty3 rfl rfl rfl rfl rfl rfl rfl (getI_spec he23).2 (TRange.mk e23.Low (i9 : Int)) rfl rfl ?_
              refine lj_nil ?_
              refine nj_blk ?_
              exact cnk15 _ _ (u13.set ((w64 ((u13.length : Int) - 1)).toNat) (TRange.mk e23.Low (i9 : Int))) g14 (hJk15 _ (Option.some.inj hm).symm) ⟨rfl, rfl, rfl, rfl, rfl, rfl, rfl, trivial⟩ (fun _ h => h.picks [0, 0, 0, 0, 0] rfl)
            · have hm := ifB_f hb hm
              refine cj_reg ?_
              refine lp rfl (p_mv rfl) ?_
              refine lp rfl (p_mv rfl) ?_
              refine lp rfl (p_mv rfl) ?_
              refine lp rfl (p_bld [.int .i64 (i9 : Int), .int .i64 (i9 : Int)] rfl (fun _ => by kernel_rfl)) ?_
              refine r_bs R37 [(TRange.mk (i9 : Int) (i9 : Int))] rfl rfl rfl (fun _ => by kernel_rfl) rfl (fun s24 => ?_)
              obtain ⟨q25, hq25, hm⟩ := bindS hm
              refine r_app (k := 5) Tryd.underlying61 ty37 rfl rfl rfl rfl (.row 0 rfl) hq25 rfl (fun s26 => ?_)
              refine lp rfl (p_as rfl) ?_
              refine lj_nil ?_
              refine nj_blk ?_
              exact cnk15 _ _ q25 s26 (hJk15 _ (Option.some.inj hm).symm) ⟨rfl, rfl, rfl, rfl, rfl, rfl, rfl, trivial⟩ (fun _ h => h.picks [1, 1, 1, 1, 1] rfl)
          · have hm := hk21
            refine lp rfl (p_mv rfl) ?_
            refine lp rfl (p_geq rfl rfl) ?_
            refine lp rfl (p_mv rfl) ?_
            refine lcase (i := 37) (decide ((w64 ((u13.length : Int) - 1)) ≥ 0)) rfl (fun hb => ?_) (fun hb => ?_)
            · have hm := ifB_t hb hm
              refine lg true rfl rfl rfl ?_
              refine lp rfl (p_mv rfl) ?_
              refine lg true rfl rfl rfl ?_
              refine lp rfl (p_mv rfl) ?_
              refine lg true rfl rfl rfl ?_
              obtain ⟨e22, he22, hm⟩ := bindS hm
              refine lp rfl (p_idx Tryd.underlying61 ty37 rfl rfl (.row 4 rfl) he22) ?_
              refine lg true rfl rfl rfl ?_
              refine lp rfl (p_fae fl37_1 rfl (.row 4 rfl) (getI_spec he22).2) ?_
              refine lg true rfl rfl rfl ?_
              refine lp rfl (p_lde (o := 1) ty3 rfl rfl (.row 4 rfl) (getI_spec he22).2 rfl) ?_
              refine lg true rfl rfl rfl ?_
              refine lp rfl (p_mv rfl) ?_
              refine lg true rfl rfl rfl ?_
              refine lp rfl (p_sub rfl rfl) ?_
              refine lg true rfl rfl rfl ?_
              refine lp rfl (p_eql rfl rfl) ?_
              refine lp rfl (p_pkt rfl rfl) ?_
              refine lj_nil ?_
              exact cnk21 _ _ (e22.High == (w64 ((i9 : Int) - 1))) () (Option.some.inj hm).symm ⟨rfl, rfl, rfl, rfl, rfl, rfl, rfl, rfl, rfl, rfl, trivial⟩ (fun _ h => h.picks [0, 0, 0, 0, 0] rfl)
            · have hm := ifB_f hb hm
              refine ls true rfl rfl rfl rfl ?_
              refine ls true rfl rfl rfl rfl ?_
              refine ls true rfl rfl rfl rfl ?_
              refine ls true rfl rfl rfl rfl ?_
              refine ls true rfl rfl rfl rfl ?_
              refine ls true rfl rfl rfl rfl ?_
              refine ls true rfl rfl rfl rfl ?_
              refine ls true rfl rfl rfl rfl ?_
              refine lp rfl (p_pkf rfl rfl) ?_
              refine lj_nil ?_
              exact cnk21 _ _ false () (Option.some.inj hm).symm ⟨rfl, rfl, rfl, rfl, rfl, rfl, rfl, rfl, rfl, rfl, trivial⟩ (fun _ h => h.picks [0, 0, 0, 0, 0] rfl)
theorem ok_gleelaw2_when (a0 : Bool) (a1 : Int) {r : Int} (hm : m_gleelaw2_when a0 a1 = some r) :
    Ctr Tryd.prog 27 [.bool a0, .int .i64 a1].toArray ([] : List Ent) [] (X := Unit) (fun _ => .int .i64 r) (fun _ => []) := by
  unfold m_gleelaw2_when at hm
  refine ctr_mk (vs := [(0, .bool a0), (1, .int .i64 a1)]) Tryd.func27 rfl Tryd.ntmps27 rfl ⟨rfl, rfl, trivial⟩ (fun w0 A => ?_)
  refine cj_seq ?_
  refine cj_reg ?_
  refine lp rfl (p_as rfl) ?_
  refine lj_seq ?_
  refine cj_seq ?_
  refine cj_seq ?_
  refine cj_reg ?_
  refine lp rfl (p_mv rfl) ?_
  refine lj_seq ?_
  refine cj_if (b := a0) rfl (fun hb => ?_) (fun hb => ?_)
  · have hm := ifB_t hb hm
    refine cj_seq ?_
    refine cj_reg ?_
    refine lp rfl (p_mv rfl) ?_
    refine lp rfl (p_as rfl) ?_
    refine lj_seq ?_
    obtain rfl := Option.some.inj hm
    exact cj_rt () [] Tryd.results27 (.tmp rfl .nil) rfl rfl
  · have hm := ifB_f hb hm
    refine cj_skip ?_
    refine nj_seq ?_
    refine cj_seq ?_
    refine cj_reg ?_
    refine lp rfl (p_as rfl) ?_
    refine lj_seq ?_
    obtain rfl := Option.some.inj hm
    exact cj_rt () [] Tryd.results27 (.tmp rfl .nil) rfl rfl
theorem ok_gleelaw2_errs (s0_ : SV) (a0 : (List Int)) {r : Int} (hm : m_gleelaw2_errs a0 = some r) :
    Ctr Tryd.prog 26 [s0_.v].toArray ([] : List Ent) [RdS R31 (SV.v s0_) a0] (X := Unit) (fun _ => .int .i64 r) (fun _ => []) := by
  unfold m_gleelaw2_errs at hm
  refine ctr_mk (vs := [(0, s0_.v)]) Tryd.func26 rfl Tryd.ntmps26 rfl ⟨rfl, trivial⟩ (fun w0 A => ?_)
  refine cj_seq ?_
  refine cj_reg ?_
  refine lp rfl (p_as rfl) ?_
  refine lj_seq ?_
  refine cj_seq ?_
  refine cj_seq ?_
  refine cj_reg ?_
  refine lp rfl (p_mv rfl) ?_
  refine lp rfl (p_len Tryd.underlying114 rfl (.ro 0 rfl)) ?_
  refine lp rfl (p_mv rfl) ?_
  refine lj_seq ?_
  obtain ⟨f7, hf7, hm⟩ := bindS hm
  refine cj_range (γ := Unit) (m := (a0.length : Int)) hf7 () (fun u4 g5 => [(2, .int .i64 0), (5, s0_.v)]) (fun u4 g5 => Sat w0 (keys ([] : List Ent)) A [.ro (RdS R31 (SV.v s0_) a0)]) ⟨rfl, rfl, rfl, rfl, trivial⟩ (fun _ h => h.picks [0] rfl) (nat_lt _) (fun _ h => (FactAt.get (F := RdS R31 (SV.v s0_) a0) (.ro 0 rfl) h).1) (fun _ _ => ⟨rfl, rfl, rfl, rfl⟩) ⟨rfl, rfl, rfl, rfl, rfl⟩ rfl rfl rfl (fun u4 g5 e => ?_) (fun aftk6 i1 x2 u4 g5 k6 hx3 hs J hJk6 hBk6 hX I cnk6 => ?_)
  · have hm := Flow.fin_b e hm
    refine nj_seq ?_
    refine cj_seq ?_
    refine cj_reg ?_
    refine lp rfl (p_as rfl) ?_
    refine lj_seq ?_
    obtain rfl := Option.some.inj hm
    exact cj_rt () [] Tryd.results26 (.tmp rfl .nil) rfl rfl
  · have hRk6 : ∀ t, k6 = .ret t → some t = some r := fun t e => by rw [hX t e] at hm; exact hm
    have hm := hs
    refine cj_seq ?_
    refine cj_reg ?_
    refine lp rfl (p_idx Tryd.underlying114 ty31 rfl rfl (.ro 0 rfl) (getI_nat.trans hx3)) ?_
    refine lp rfl (p_lde (o := 0) ty31 rfl rfl (.ro 0 rfl) hx3 rfl) ?_
    refine lp rfl (p_as rfl) ?_
    refine lj_seq ?_
    refine cj_seq ?_
    refine cj_reg ?_
    refine lp rfl (p_mv rfl) ?_
    refine lp rfl (p_neq rfl rfl) ?_
    refine lj_seq ?_
    refine cj_if (b := x2 != 0) rfl (fun hb => ?_) (fun hb => ?_)
    · have hm := ifB_t hb hm
      refine cj_seq ?_
      refine cj_reg ?_
      refine lp rfl (p_mv rfl) ?_
      refine lp rfl (p_as rfl) ?_
      refine lj_seq ?_
      have hm := hRk6 _ (Option.some.inj hm).symm
      obtain rfl := Option.some.inj hm
      exact cj_rt () [] Tryd.results26 (.tmp rfl .nil) rfl rfl
    · have hm := ifB_f hb hm
      refine cj_skip ?_
      refine nj_blk ?_
      exact cnk6 _ _ () () (hJk6 _ (Option.some.inj hm).symm) ⟨rfl, rfl, rfl, rfl, trivial⟩ (fun _ h => h.picks [0] rfl)
theorem ok_gleeref2_ShiftOf (s0_ : SV) (a0 : (List TTone)) (a1 : Int) {r : (List TTone) × Int} (hm : m_gleeref2_ShiftOf a0 a1 = some r) :
    Ctr Tryd.prog 28 [s0_.v, .int .i64 a1].toArray ([] : List Ent) [RdS R50 (SV.v s0_) a0] (X := SV) (fun s => .tuple [s.v, .int .i64 r.2].toArray) (fun s => [.row R50 (SV.v s) r.1]) := by
  unfold m_gleeref2_ShiftOf at hm
  refine ctr_mk (vs := [(0, s0_.v), (1, .int .i64 a1)]) Tryd.func28 rfl Tryd.ntmps28 rfl ⟨rfl, rfl, trivial⟩ (fun w0 A => ?_)
  refine cj_seq ?_
  refine cj_reg ?_
  refine lp rfl (p_as rfl) ?_
  refine lp rfl (p_as rfl) ?_
  refine lj_seq ?_
  refine cj_seq ?_
  refine cj_seq ?_
  refine cj_reg ?_
  refine lp rfl (p_mv rfl) ?_
  obtain ⟨y1, hy1, hm⟩ := bindS hm
  refine r_call [] cf71 rfl rfl (ok_gleeref2_in a1 (-127) 127 hy1) rfl rfl .nil (fun _ => rfl) rfl (fun _ => ?_)
  refine lp rfl (p_not rfl) ?_
  refine lj_seq ?_
  refine cj_if (b := !y1) rfl (fun hb => ?_) (fun hb => ?_)
  · have hm := ifB_t hb hm
    refine cj_seq ?_
    refine cj_reg ?_
    refine lp rfl (p_as rfl) ?_
    refine lp rfl (p_as rfl) ?_
    refine lj_seq ?_
    obtain rfl := Option.some.inj hm
    refine cj_nil R50 ?_
    exact cj_rt nilS [0] Tryd.results28 (.tmp rfl (.tmp rfl .nil)) rfl rfl
  · have hm := ifB_f hb hm
    refine cj_skip ?_
    refine nj_seq ?_
    refine cj_seq ?_
    refine cj_reg ?_
    refine lp rfl (p_mv rfl) ?_
    obtain ⟨y3, hy3, hm⟩ := bindS hm
    refine r_call [] cf54 rfl rfl (ok_slices_Clone_api_Tone_api_Tone s0_ a0 hy3) rfl rfl (.cons (.ro 0 rfl) .nil) (fun _ => rfl) rfl (fun s4 => ?_)
    refine lp rfl (p_as rfl) ?_
    refine lj_seq ?_
    refine cj_seq ?_
    refine cj_seq ?_
    refine cj_reg ?_
    refine lp rfl (p_mv rfl) ?_
    refine lp rfl (p_len Tryd.underlying28 rfl (.row 0 rfl)) ?_
    refine lp rfl (p_mv rfl) ?_
    refine lj_seq ?_
    obtain ⟨f11, hf11, hm⟩ := bindS hm
    refine cj_range (γ := SV) (m := (y3.length : Int)) hf11 s4 (fun u8 g9 => [(1, .int .i64 a1), (4, .slice none 0 0), (5, .int .i64 0), (6, g9.v)]) (fun u8 g9 => Sat w0 (keys ([] : List Ent)) A [.row R50 (SV.v g9) u8]) ⟨rfl, rfl, rfl, rfl, rfl, rfl, trivial⟩ (fun _ h => h.picks [0] rfl) (nat_lt _) (fun _ h => (FactAt.get (F := RdS R50 (SV.v s4) y3) (.row 0 rfl) h).1) (fun _ _ => ⟨rfl, rfl, rfl, rfl⟩) ⟨rfl, rfl, rfl, rfl, rfl⟩ rfl rfl rfl (fun u8 g9 e => ?_) (fun aftk10 i5 x6 u8 g9 k10 hx7 hs J hJk10 hBk10 hX I cnk10 => ?_)
    · have hm := Flow.fin_b e hm
      refine nj_seq ?_
      refine cj_seq ?_
      refine cj_reg ?_
      refine lp rfl (p_mv rfl) ?_
      refine lp rfl (p_as rfl) ?_
      refine lp rfl (p_as rfl) ?_
      refine lj_seq ?_
      obtain rfl := Option.some.inj hm
      exact cj_rt g9 [0] Tryd.results28 (.tmp rfl (.tmp rfl .nil)) rfl rfl
    · have hRk10 : ∀ t, k10 = .ret t → some t = some r := fun t e => by rw [hX t e] at hm; exact hm
      have hm := hs
      refine cj_seq ?_
      refine cj_reg ?_
      refine lp rfl (p_mv rfl) ?_
      refine lp rfl (p_as rfl) ?_
      refine lj_seq ?_
      refine cj_seq ?_
      refine cj_seq ?_
      refine cj_reg ?_
      refine lp rfl (p_mv rfl) ?_
      refine lp rfl (p_mv rfl) ?_
      obtain ⟨e13, he13, hm⟩ := bindS hm
      refine lp rfl (p_idx Tryd.underlying28 ty50 rfl rfl (.row 0 rfl) he13) ?_
      refine lp rfl (p_fae fl50_0 rfl (.row 0 rfl) (getI_spec he13).2) ?_
      refine lp rfl (p_lde (o := 0) ty3 rfl rfl (.row 0 rfl) (getI_spec he13).2 rfl) ?_
      refine lp rfl (p_eql rfl rfl) ?_
      refine lj_seq ?_
      refine cj_if (b := e13.Note == (-1)) rfl (fun hb => ?_) (fun hb => ?_)
      · have hm := ifB_t hb hm
        refine cj_exit rfl ?_
        exact cnk10 _ _ u8 g9 (hJk10 _ (Option.some.inj hm).symm) ⟨rfl, rfl, rfl, rfl, rfl, rfl, trivial⟩ (fun _ h => h.picks [0] rfl)
      · have hm := ifB_f hb hm
        refine cj_skip ?_
        refine nj_seq ?_
        refine cj_seq ?_
        refine cj_reg ?_
        refine lp rfl (p_mv rfl) ?_
        refine lp rfl (p_mv rfl) ?_
        obtain ⟨e14, he14, hm⟩ := bindS hm
        refine lp rfl (p_idx Tryd.underlying28 ty50 rfl rfl (.row 0 rfl) he14) ?_
        refine lp rfl (p_fae fl50_0 rfl (.row 0 rfl) (getI_spec he14).2) ?_
        refine lp rfl (p_lde (o := 0) ty3 rfl rfl (.row 0 rfl) (getI_spec he14).2 rfl) ?_
        refine lp rfl (p_mv rfl) ?_
        refine lp rfl (p_add rfl rfl) ?_
        obtain ⟨e15, he15, hm⟩ := bindS hm
        refine lp rfl (p_idx Tryd.underlying28 ty50 rfl rfl (.row 0 rfl) he15) ?_
        refine lp rfl (p_fae fl50_0 rfl (.row 0 rfl) (getI_spec he15).2) ?_
        refine r_ste (k := 0) (o := 0) (vs := [.int .i64 (w64 (e14.Note + a1))]) ty3 rfl rfl rfl rfl rfl rfl rfl (getI_spec he15).2 (TTone.mk (w64 (e14.Note + a1)) e15.Long e15.Text e15.Tied) rfl rfl ?_
        refine lj_seq ?_
        refine cj_seq ?_
        refine cj_reg ?_
        refine lp rfl (p_mv rfl) ?_
        refine lp rfl (p_mv rfl) ?_
        obtain ⟨e16, he16, hm⟩ := bindS hm
        refine lp rfl (p_idx Tryd.underlying28 ty50 rfl rfl (.row 0 rfl) he16) ?_
        refine lp rfl (p_fae fl50_0 rfl (.row 0 rfl) (getI_spec he16).2) ?_
        refine lp rfl (p_lde (o := 0) ty3 rfl rfl (.row 0 rfl) (getI_spec he16).2 rfl) ?_
        obtain ⟨y17, hy17, hm⟩ := bindS hm
        refine r_call [] cf71 rfl rfl (ok_gleeref2_in e16.Note 0 127 hy17) rfl rfl .nil (fun _ => rfl) rfl (fun _ => ?_)
        refine lp rfl (p_not rfl) ?_
        refine lj_seq ?_
        refine cj_if (b := !y17) rfl (fun hb => ?_) (fun hb => ?_)
        · have hm := ifB_t hb hm
          refine cj_seq ?_
          refine cj_reg ?_
          refine lp rfl (p_as rfl) ?_
          refine lp rfl (p_as rfl) ?_
          refine lj_seq ?_
          have hm := hRk10 _ (Option.some.inj hm).symm
          obtain rfl := Option.some.inj hm
          refine cj_nil R50 ?_
          exact cj_rt nilS [0] Tryd.results28 (.tmp rfl (.tmp rfl .nil)) rfl rfl
        · have hm := ifB_f hb hm
          refine cj_skip ?_
          refine nj_blk ?_
          exact cnk10 _ _ (u8.set ((i5 : Int).toNat) (TTone.mk (w64 (e14.Note + a1)) e15.Long e15.Text e15.Tied)) g9 (hJk10 _ (Option.some.inj hm).symm) ⟨rfl, rfl, rfl, rfl, rfl, rfl, trivial⟩ (fun _ h => h.picks [0] rfl)
theorem ok_gleeref2_LyricsOf (s0_ : SV) (a0 : (List TBar)) (s1_ : SV) (a1 : (List TTone)) {r : ByteArray × Int} (hm : m_gleeref2_LyricsOf a0 a1 = some r) :
    Ctr Tryd.prog 29 [s0_.v, s1_.v].toArray ([] : List Ent) [RdS R75 (SV.v s0_) a0, RdS R50 (SV.v s1_) a1] (X := Unit) (fun _ => .tuple [.string r.1, .int .i64 r.2].toArray) (fun _ => []) := by
  unfold m_gleeref2_LyricsOf at hm
  refine ctr_mk (vs := [(0, s0_.v), (1, s1_.v)]) Tryd.func29 rfl Tryd.ntmps29 rfl ⟨rfl, rfl, trivial⟩ (fun w0 A => ?_)
  refine cj_seq ?_
  refine cj_reg ?_
  refine lp rfl (p_as rfl) ?_
  refine lp rfl (p_as rfl) ?_
  refine lj_seq ?_
  refine cj_seq ?_
  refine cj_reg ?_
  refine lp rfl (p_as rfl) ?_
  refine lp rfl (p_as rfl) ?_
  refine lj_seq ?_
  refine cj_seq ?_
  refine cj_seq ?_
  refine cj_reg ?_
  refine lp rfl (p_mv rfl) ?_
  refine lp rfl (p_mv rfl) ?_
  obtain ⟨y1, hy1, hm⟩ := bindS hm
  refine r_call [] cf18 rfl rfl (ok_gleeref2_PlayedOf s0_ a0 s1_ a1 hy1) rfl rfl (.cons (.ro 0 rfl) (.cons (.ro 1 rfl) .nil)) (fun _ => rfl) rfl (fun s2 => ?_)
  refine lp rfl (p_len Tryd.underlying28 rfl (.row 0 rfl)) ?_
  refine lp rfl (p_mv rfl) ?_
  refine lj_seq ?_
  obtain ⟨f9, hf9, hm⟩ := bindS hm
  refine cj_range (γ := Unit) (m := (y1.length : Int)) hf9 () (fun u6 g7 => [(4, .string ByteArray.empty), (5, .int .i64 0), (6, .string u6.1), (7, .string u6.2), (14, s2.v)]) (fun u6 g7 => Sat w0 (keys ([] : List Ent)) A [.row R50 (SV.v s2) y1]) ⟨rfl, rfl, rfl, rfl, rfl, rfl, rfl, trivial⟩ (fun _ h => h.picks [0] rfl) (nat_lt _) (fun _ h => (FactAt.get (F := RdS R50 (SV.v s2) y1) (.row 0 rfl) h).1) (fun _ _ => ⟨rfl, rfl, rfl, rfl⟩) ⟨rfl, rfl, rfl, rfl, rfl⟩ rfl rfl rfl (fun u6 g7 e => ?_) (fun aftk8 i3 x4 u6 g7 k8 hx5 hs J hJk8 hBk8 hX I cnk8 => ?_)
  · have hm := Flow.fin_b e hm
    refine nj_seq ?_
    refine cj_seq ?_
    refine cj_seq ?_
    refine cj_reg ?_
    refine lp rfl (p_mv rfl) ?_
    refine lp rfl (p_lens Tryd.underlying9 rfl) ?_
    refine lp rfl (p_gtr rfl rfl) ?_
    refine lj_seq ?_
    refine cj_if (b := decide ((u6.1.size : Int) > 200000)) rfl (fun hb => ?_) (fun hb => ?_)
    · have hm := ifB_t hb hm
      refine cj_seq ?_
      refine cj_reg ?_
      refine lp rfl (p_as rfl) ?_
      refine lp rfl (p_as rfl) ?_
      refine lj_seq ?_
      obtain rfl := Option.some.inj hm
      exact cj_rt () [] Tryd.results29 (.tmp rfl (.tmp rfl .nil)) rfl rfl
    · have hm := ifB_f hb hm
      refine cj_skip ?_
      refine nj_seq ?_
      refine cj_seq ?_
      refine cj_reg ?_
      refine lp rfl (p_mv rfl) ?_
      refine lp rfl (p_as rfl) ?_
      refine lp rfl (p_as rfl) ?_
      refine lj_seq ?_
      obtain rfl := Option.some.inj hm
      exact cj_rt () [] Tryd.results29 (.tmp rfl (.tmp rfl .nil)) rfl rfl
  · have hRk8 : ∀ t, k8 = .ret t → some t = some r := fun t e => by rw [hX t e] at hm; exact hm
    have hm := hs
    refine cj_seq ?_
    refine cj_reg ?_
    refine lp rfl (p_idx Tryd.underlying28 ty50 rfl rfl (.row 0 rfl) (getI_nat.trans hx5)) ?_
    refine lp rfl (p_lea ty50 rfl (.row 0 rfl) hx5) ?_
    refine r_al ty50 rfl (fun b10 => ?_)
    refine r_sb (vs := [.int .i64 x4.Note, .int .i64 x4.Long.Num, .int .i64 x4.Long.Den, .string x4.Text, .bool x4.Tied]) (j := 0) ty50 rfl rfl rfl rfl rfl rfl rfl ?_
    refine lj_seq ?_
    refine cj_seq ?_
    refine cj_seq ?_
    refine cj_reg ?_
    refine lp rfl (p_fab fl50_2 rfl) ?_
    refine lp rfl (p_lbs ty9 rfl (j := 0) rfl rfl) ?_
    refine lp rfl (p_eqs rfl rfl) ?_
    refine lj_seq ?_
    refine cj_if (b := x4.Text.toList == ByteArray.empty.toList) rfl (fun hb => ?_) (fun hb => ?_)
    · have hm := ifB_t hb hm
      refine cj_exit rfl ?_
      exact cnk8 _ _ (u6.1, u6.2) () (hJk8 _ (Option.some.inj hm).symm) ⟨rfl, rfl, rfl, rfl, rfl, rfl, rfl, trivial⟩ (fun _ h => h.picks [1] rfl)
    · have hm := ifB_f hb hm
      refine cj_skip ?_
      refine nj_seq ?_
      refine cj_seq ?_
      refine cj_reg ?_
      refine lp rfl (p_fab fl50_2 rfl) ?_
      refine lp rfl (p_lbs ty9 rfl (j := 0) rfl rfl) ?_
      obtain ⟨y11, hy11, hm⟩ := bindS hm
      refine r_call [] cf63 rfl rfl (ok_strings_CutSuffix x4.Text (ByteArray.mk [45].toArray) hy11) rfl rfl .nil (fun _ => rfl) rfl (fun _ => ?_)
      refine lp rfl (p_mv rfl) ?_
      refine lp rfl (p_ext rfl rfl) ?_
      refine lp rfl (p_ext rfl rfl) ?_
      refine lp rfl (p_as rfl) ?_
      refine lp rfl (p_as rfl) ?_
      refine lj_seq ?_
      refine cj_seq ?_
      refine cj_reg ?_
      refine lp rfl (p_mv rfl) ?_
      refine lp rfl (p_mv rfl) ?_
      refine lp rfl (p_mv rfl) ?_
      obtain ⟨c12, hc12, hm⟩ := bindS hm
      refine lp rfl (p_catM hc12 rfl rfl) ?_
      obtain ⟨c13, hc13, hm⟩ := bindS hm
      refine lp rfl (p_catM hc13 rfl rfl) ?_
      refine lp rfl (p_as rfl) ?_
      refine lj_seq ?_
      refine cj_seq ?_
      refine cj_reg ?_
      refine lp rfl (p_as rfl) ?_
      refine lj_seq ?_
      refine cj_seq ?_
      refine cj_reg ?_
      refine lp rfl (p_mv rfl) ?_
      refine lj_seq ?_
      refine cj_if (b := y11.2) rfl (fun hb => ?_) (fun hb => ?_)
      · have hm := ifB_t hb hm
        refine cj_reg ?_
        refine lp rfl (p_as rfl) ?_
        refine lj_nil ?_
        refine nj_blk ?_
        exact cnk8 _ _ (c13, ByteArray.empty) () (hJk8 _ (Option.some.inj hm).symm) ⟨rfl, rfl, rfl, rfl, rfl, rfl, rfl, trivial⟩ (fun _ h => h.picks [1] rfl)
      · have hm := ifB_f hb hm
        refine cj_skip ?_
        refine nj_blk ?_
        exact cnk8 _ _ (c13, (ByteArray.mk [32].toArray)) () (hJk8 _ (Option.some.inj hm).symm) ⟨rfl, rfl, rfl, rfl, rfl, rfl, rfl, trivial⟩ (fun _ h => h.picks [1] rfl)
theorem ok_gleeref2_SoundsFault (s0_ : SV) (a0 : (List TBar)) (a1 : TFraction) {r : Int} (hm : m_gleeref2_SoundsFault a0 a1 = some r) :
    Ctr Tryd.prog 30 [s0_.v, .agg (R48.enc a1).toArray].toArray ([] : List Ent) [RdS R75 (SV.v s0_) a0] (X := Unit) (fun _ => .int .i64 r) (fun _ => []) := by
  unfold m_gleeref2_SoundsFault at hm
  refine ctr_mk (vs := [(0, s0_.v), (1, .agg (R48.enc a1).toArray)]) Tryd.func30 rfl Tryd.ntmps30 rfl ⟨rfl, rfl, trivial⟩ (fun w0 A => ?_)
  refine cj_seq ?_
  refine cj_reg ?_
  refine r_bx (cs := [.int .i64 a1.Num, .int .i64 a1.Den]) rfl rfl rfl (fun b1 => ?_)
  refine lp rfl (p_as rfl) ?_
  refine lj_seq ?_
  refine cj_seq ?_
  refine cj_reg ?_
  refine lp rfl (p_as rfl) ?_
  refine lj_seq ?_
  refine cj_seq ?_
  refine cj_seq ?_
  refine cj_reg ?_
  refine lp rfl (p_mv rfl) ?_
  refine lp rfl (p_len Tryd.underlying26 rfl (.ro 1 rfl)) ?_
  refine lp rfl (p_mv rfl) ?_
  refine lj_seq ?_
  obtain ⟨f8, hf8, hm⟩ := bindS hm
  refine cj_range (γ := Unit) (m := (a0.length : Int)) hf8 () (fun u5 g6 => [(3, .pointer (some ⟨b1, 0, none⟩)), (4, .int .i64 0), (5, .int .i64 u5), (8, s0_.v)]) (fun u5 g6 => Sat w0 (keys ([] : List Ent)) A [.box b1 48 [.int .i64 a1.Num, .int .i64 a1.Den], .ro (RdS R75 (SV.v s0_) a0)]) ⟨rfl, rfl, rfl, rfl, rfl, rfl, trivial⟩ (fun _ h => h.picks [0, 0] rfl) (nat_lt _) (fun _ h => (FactAt.get (F := RdS R75 (SV.v s0_) a0) (.ro 1 rfl) h).1) (fun _ _ => ⟨rfl, rfl, rfl, rfl⟩) ⟨rfl, rfl, rfl, rfl, rfl⟩ rfl rfl rfl (fun u5 g6 e => ?_) (fun aftk7 i2 x3 u5 g6 k7 hx4 hs J hJk7 hBk7 hX I cnk7 => ?_)
  · have hm := Flow.fin_b e hm
    refine nj_seq ?_
    refine cj_seq ?_
    refine cj_blk ?_
    refine cj_seq ?_
    refine cj_reg ?_
    obtain ⟨k13, hk13, hm⟩ := bindS hm
    have hRk13 : ∀ t, k13 = .inr t → some t = some r := fun t e => by rw [e] at hm; exact hm
    refine lj_join (σ := Bool) (γ := Unit) (fun u11 => k13 = .inl u11) (fun u11 g12 => [(3, .pointer (some ⟨b1, 0, none⟩)), (4, .int .i64 0), (5, .int .i64 u5), (19, .bool u11)]) (fun u11 g12 => Sat w0 (keys ([] : List Ent)) A [.box b1 48 [.int .i64 a1.Num, .int .i64 a1.Den]]) (fun u11 g12 hq => ?_) (fun J cnk13 => ?_)
    · have hm := Sum.fin_l hq hm
      refine cj_if (b := u11) rfl (fun hb => ?_) (fun hb => ?_)
      · have hm := ifB_t hb hm
        refine cj_seq ?_
        refine cj_reg ?_
        refine lp rfl (p_as rfl) ?_
        refine lj_seq ?_
        obtain rfl := Option.some.inj hm
        exact cj_rt () [] Tryd.results30 (.tmp rfl .nil) rfl rfl
      · have hm := ifB_f hb hm
        refine cj_seq ?_
        refine cj_reg ?_
        obtain ⟨k17, hk17, hm⟩ := bindS hm
        have hRk17 : ∀ t, k17 = .inr t → some t = some r := fun t e => by rw [e] at hm; exact hm
        refine lj_join (σ := Bool) (γ := Unit) (fun u15 => k17 = .inl u15) (fun u15 g16 => [(4, .int .i64 0), (31, .bool u15)]) (fun u15 g16 => Sat w0 (keys ([] : List Ent)) A []) (fun u15 g16 hq => ?_) (fun J cnk17 => ?_)
        · have hm := Sum.fin_l hq hm
          refine cj_if (b := u15) rfl (fun hb => ?_) (fun hb => ?_)
          · have hm := ifB_t hb hm
            refine cj_seq ?_
            refine cj_reg ?_
            refine lp rfl (p_as rfl) ?_
            refine lj_seq ?_
            obtain rfl := Option.some.inj hm
            exact cj_rt () [] Tryd.results30 (.tmp rfl .nil) rfl rfl
          · have hm := ifB_f hb hm
            refine cj_skip ?_
            refine nj_blk ?_
            refine nj_seq ?_
            refine cj_seq ?_
            refine cj_reg ?_
            refine lp rfl (p_as rfl) ?_
            refine lj_seq ?_
            obtain rfl := Option.some.inj hm
            exact cj_rt () [] Tryd.results30 (.tmp rfl .nil) rfl rfl
        · have hm := hk17
          refine lp rfl (p_fab fl48_0 rfl) ?_
          refine lp rfl (p_lbs ty3 rfl (j := 0) rfl rfl) ?_
          refine lp rfl (p_lss rfl rfl) ?_
          refine lp rfl (p_mv rfl) ?_
          refine lcase (i := 35) (decide (a1.Num < 0)) rfl (fun hb => ?_) (fun hb => ?_)
          · have hm := ifB_t hb hm
            refine ls false rfl rfl rfl rfl ?_
            refine ls false rfl rfl rfl rfl ?_
            refine ls false rfl rfl rfl rfl ?_
            refine ls false rfl rfl rfl rfl ?_
            refine lp rfl (p_pkt rfl rfl) ?_
            refine lp rfl (p_mv rfl) ?_
            refine ls false rfl rfl rfl rfl ?_
            refine ls false rfl rfl rfl rfl ?_
            refine ls false rfl rfl rfl rfl ?_
            refine ls false rfl rfl rfl rfl ?_
            refine lp rfl (p_pkt rfl rfl) ?_
            refine lp rfl (p_mv rfl) ?_
            refine ls false rfl rfl rfl rfl ?_
            refine ls false rfl rfl rfl rfl ?_
            refine ls false rfl rfl rfl rfl ?_
            refine ls false rfl rfl rfl rfl ?_
            refine lp rfl (p_pkt rfl rfl) ?_
            refine lp rfl (p_as rfl) ?_
            refine lj_nil ?_
            exact cnk17 _ _ true () (Option.some.inj hm).symm ⟨rfl, rfl, trivial⟩ (fun _ h => h.picks [] rfl)
          · have hm := ifB_f hb hm
            refine lg false rfl rfl rfl ?_
            refine lp rfl (p_fab fl48_1 rfl) ?_
            refine lg false rfl rfl rfl ?_
            refine lp rfl (p_lbs ty3 rfl (j := 0) rfl rfl) ?_
            refine lg false rfl rfl rfl ?_
            obtain ⟨z18, hz18, hm⟩ := bindS hm
            refine lp rfl (p_remM hz18 rfl rfl) ?_
            refine lg false rfl rfl rfl ?_
            refine lp rfl (p_neq rfl rfl) ?_
            refine lp rfl (p_pkf rfl rfl) ?_
            refine lp rfl (p_mv rfl) ?_
            refine lcase (i := 41) (z18 != 0) rfl (fun hb => ?_) (fun hb => ?_)
            · have hm := ifB_t hb hm
              refine ls false rfl rfl rfl rfl ?_
              refine ls false rfl rfl rfl rfl ?_
              refine ls false rfl rfl rfl rfl ?_
              refine ls false rfl rfl rfl rfl ?_
              refine lp rfl (p_pkt rfl rfl) ?_
              refine lp rfl (p_mv rfl) ?_
              refine ls false rfl rfl rfl rfl ?_
              refine ls false rfl rfl rfl rfl ?_
              refine ls false rfl rfl rfl rfl ?_
              refine ls false rfl rfl rfl rfl ?_
              refine lp rfl (p_pkt rfl rfl) ?_
              refine lp rfl (p_as rfl) ?_
              refine lj_nil ?_
              exact cnk17 _ _ true () (Option.some.inj hm).symm ⟨rfl, rfl, trivial⟩ (fun _ h => h.picks [] rfl)
            · have hm := ifB_f hb hm
              refine lg false rfl rfl rfl ?_
              refine lp rfl (p_fab fl48_0 rfl) ?_
              refine lg false rfl rfl rfl ?_
              refine lp rfl (p_lbs ty3 rfl (j := 0) rfl rfl) ?_
              refine lg false rfl rfl rfl ?_
              refine lp rfl (p_mv rfl) ?_
              refine lg false rfl rfl rfl ?_
              refine lp rfl (p_geq rfl rfl) ?_
              refine lp rfl (p_pkf rfl rfl) ?_
              refine lp rfl (p_mv rfl) ?_
              refine lcase (i := 47) (decide (a1.Num ≥ u5)) rfl (fun hb => ?_) (fun hb => ?_)
              · have hm := ifB_t hb hm
                refine ls false rfl rfl rfl rfl ?_
                refine ls false rfl rfl rfl rfl ?_
                refine ls false rfl rfl rfl rfl ?_
                refine ls false rfl rfl rfl rfl ?_
                refine lp rfl (p_pkt rfl rfl) ?_
                refine lp rfl (p_as rfl) ?_
                refine lj_nil ?_
                exact cnk17 _ _ true () (Option.some.inj hm).symm ⟨rfl, rfl, trivial⟩ (fun _ h => h.picks [] rfl)
              · have hm := ifB_f hb hm
                refine lg false rfl rfl rfl ?_
                refine lp rfl (p_lbw ty48 rfl (j := 0) rfl rfl) ?_
                refine lg false rfl rfl rfl ?_
                obtain ⟨y19, hy19, hm⟩ := bindS hm
                refine r_call [] cf53 rfl rfl (ok_gleeref2_units a1 hy19) rfl rfl .nil (fun _ => rfl) rfl (fun _ => ?_)
                refine lg false rfl rfl rfl ?_
                refine lp rfl (p_mv rfl) ?_
                refine lg false rfl rfl rfl ?_
                refine lp rfl (p_geq rfl rfl) ?_
                refine lp rfl (p_pkf rfl rfl) ?_
                refine lp rfl (p_as rfl) ?_
                refine lj_nil ?_
                exact cnk17 _ _ (decide (y19 ≥ u5)) () (Option.some.inj hm).symm ⟨rfl, rfl, trivial⟩ (fun _ h => h.picks [] rfl)
    · have hm := hk13
      refine lp rfl (p_fab fl48_1 rfl) ?_
      refine lp rfl (p_lbs ty3 rfl (j := 0) rfl rfl) ?_
      refine lp rfl (p_lss rfl rfl) ?_
      refine lp rfl (p_mv rfl) ?_
      refine lcase (i := 23) (decide (a1.Den < 1)) rfl (fun hb => ?_) (fun hb => ?_)
      · have hm := ifB_t hb hm
        refine ls false rfl rfl rfl rfl ?_
        refine ls false rfl rfl rfl rfl ?_
        refine ls false rfl rfl rfl rfl ?_
        refine ls false rfl rfl rfl rfl ?_
        refine ls false rfl rfl rfl rfl ?_
        refine ls false rfl rfl rfl rfl ?_
        refine lp rfl (p_pkt rfl rfl) ?_
        refine lp rfl (p_as rfl) ?_
        refine lj_nil ?_
        exact cnk13 _ _ true () (Option.some.inj hm).symm ⟨rfl, rfl, rfl, rfl, trivial⟩ (fun _ h => h.picks [0] rfl)
      · have hm := ifB_f hb hm
        refine lg false rfl rfl rfl ?_
        refine lp rfl (p_fab fl48_0 rfl) ?_
        refine lg false rfl rfl rfl ?_
        refine lp rfl (p_lbs ty3 rfl (j := 0) rfl rfl) ?_
        refine lg false rfl rfl rfl ?_
        refine lp rfl (p_fab fl48_1 rfl) ?_
        refine lg false rfl rfl rfl ?_
        refine lp rfl (p_lbs ty3 rfl (j := 0) rfl rfl) ?_
        refine lg false rfl rfl rfl ?_
        obtain ⟨y14, hy14, hm⟩ := bindS hm
        refine r_call [] cf72 rfl rfl (ok_gleeref2_divisor a1.Num a1.Den hy14) rfl rfl .nil (fun _ => rfl) rfl (fun _ => ?_)
        refine lg false rfl rfl rfl ?_
        refine lp rfl (p_neq rfl rfl) ?_
        refine lp rfl (p_pkf rfl rfl) ?_
        refine lp rfl (p_as rfl) ?_
        refine lj_nil ?_
        exact cnk13 _ _ (y14 != 1) () (Option.some.inj hm).symm ⟨rfl, rfl, rfl, rfl, trivial⟩ (fun _ h => h.picks [0] rfl)
  · have hRk7 : ∀ t, k7 = .ret t → some t = some r := fun t e => by rw [hX t e] at hm; exact hm
    have hm := hs
    refine cj_seq ?_
    refine cj_reg ?_
    refine lp rfl (p_idx Tryd.underlying26 ty75 rfl rfl (.ro 1 rfl) (getI_nat.trans hx4)) ?_
    refine lp rfl (p_lea ty75 rfl (.ro 1 rfl) hx4) ?_
    refine r_al ty75 rfl (fun b9 => ?_)
    refine r_sb (vs := [.int .i64 x3.Beats, .int .i64 x3.Unit, .int .i64 x3.Close, .int .i64 x3.Ending, .bool x3.Open]) (j := 0) ty75 rfl rfl rfl rfl rfl rfl rfl ?_
    refine lj_seq ?_
    refine cj_reg ?_
    refine lp rfl (p_mv rfl) ?_
    refine lp rfl (p_lbw ty75 rfl (j := 0) rfl rfl) ?_
    obtain ⟨y10, hy10, hm⟩ := bindS hm
    refine r_call [] cf52 rfl rfl (ok_gleeref2_barUnits x3 hy10) rfl rfl .nil (fun _ => rfl) rfl (fun _ => ?_)
    refine lp rfl (p_add rfl rfl) ?_
    refine lp rfl (p_as rfl) ?_
    refine lj_nil ?_
    refine nj_blk ?_
    exact cnk7 _ _ (w64 (u5 + y10)) () (hJk7 _ (Option.some.inj hm).symm) ⟨rfl, rfl, rfl, rfl, rfl, rfl, trivial⟩ (fun _ h => h.picks [1, 1] rfl)
theorem ok_gleeref2_SoundsOf (s0_ : SV) (a0 : (List TTone)) (a1 : TFraction) {r : Int × Bool} (hm : m_gleeref2_SoundsOf a0 a1 = some r) :
    Ctr Tryd.prog 31 [s0_.v, .agg (R48.enc a1).toArray].toArray ([] : List Ent) [RdS R50 (SV.v s0_) a0] (X := Unit) (fun _ => .tuple [.int .i64 r.1, .bool r.2].toArray) (fun _ => []) := by
  unfold m_gleeref2_SoundsOf at hm
  refine ctr_mk (vs := [(0, s0_.v), (1, .agg (R48.enc a1).toArray)]) Tryd.func31 rfl Tryd.ntmps31 rfl ⟨rfl, rfl, trivial⟩ (fun w0 A => ?_)
  refine cj_seq ?_
  refine cj_reg ?_
  refine r_bx (cs := [.int .i64 a1.Num, .int .i64 a1.Den]) rfl rfl rfl (fun b1 => ?_)
  refine lp rfl (p_as rfl) ?_
  refine lp rfl (p_as rfl) ?_
  refine lj_seq ?_
  refine cj_seq ?_
  refine cj_reg ?_
  refine lp rfl (p_lbw ty48 rfl (j := 0) rfl rfl) ?_
  obtain ⟨y2, hy2, hm⟩ := bindS hm
  refine r_call [] cf53 rfl rfl (ok_gleeref2_units a1 hy2) rfl rfl .nil (fun _ => rfl) rfl (fun _ => ?_)
  refine lp rfl (p_as rfl) ?_
  refine lj_seq ?_
  refine cj_seq ?_
  refine cj_seq ?_
  refine cj_reg ?_
  refine lp rfl (p_mv rfl) ?_
  refine lp rfl (p_len Tryd.underlying28 rfl (.ro 1 rfl)) ?_
  refine lp rfl (p_mv rfl) ?_
  refine lj_seq ?_
  obtain ⟨f9, hf9, hm⟩ := bindS hm
  refine cj_range (γ := Unit) (m := (a0.length : Int)) hf9 () (fun u6 g7 => [(4, .int .i64 0), (5, .bool false), (6, .int .i64 u6), (11, s0_.v)]) (fun u6 g7 => Sat w0 (keys ([] : List Ent)) A [.ro (RdS R50 (SV.v s0_) a0)]) ⟨rfl, rfl, rfl, rfl, rfl, rfl, trivial⟩ (fun _ h => h.picks [1] rfl) (nat_lt _) (fun _ h => (FactAt.get (F := RdS R50 (SV.v s0_) a0) (.ro 1 rfl) h).1) (fun _ _ => ⟨rfl, rfl, rfl, rfl⟩) ⟨rfl, rfl, rfl, rfl, rfl⟩ rfl rfl rfl (fun u6 g7 e => ?_) (fun aftk8 i3 x4 u6 g7 k8 hx5 hs J hJk8 hBk8 hX I cnk8 => ?_)
  · have hm := Flow.fin_b e hm
    refine nj_seq ?_
    refine cj_seq ?_
    refine cj_reg ?_
    refine lp rfl (p_as rfl) ?_
    refine lp rfl (p_as rfl) ?_
    refine lj_seq ?_
    obtain rfl := Option.some.inj hm
    exact cj_rt () [] Tryd.results31 (.tmp rfl (.tmp rfl .nil)) rfl rfl
  · have hRk8 : ∀ t, k8 = .ret t → some t = some r := fun t e => by rw [hX t e] at hm; exact hm
    have hm := hs
    refine cj_seq ?_
    refine cj_reg ?_
    refine lp rfl (p_idx Tryd.underlying28 ty50 rfl rfl (.ro 0 rfl) (getI_nat.trans hx5)) ?_
    refine lp rfl (p_lea ty50 rfl (.ro 0 rfl) hx5) ?_
    refine r_al ty50 rfl (fun b10 => ?_)
    refine r_sb (vs := [.int .i64 x4.Note, .int .i64 x4.Long.Num, .int .i64 x4.Long.Den, .string x4.Text, .bool x4.Tied]) (j := 0) ty50 rfl rfl rfl rfl rfl rfl rfl ?_
    refine lj_seq ?_
    refine cj_seq ?_
    refine cj_reg ?_
    refine lp rfl (p_mv rfl) ?_
    refine lp rfl (p_fab fl50_1 rfl) ?_
    refine lp rfl (p_lba ty48 rfl (j := 0) rfl rfl) ?_
    obtain ⟨y11, hy11, hm⟩ := bindS hm
    refine r_call [] cf53 rfl rfl (ok_gleeref2_units x4.Long hy11) rfl rfl .nil (fun _ => rfl) rfl (fun _ => ?_)
    refine lp rfl (p_sub rfl rfl) ?_
    refine lp rfl (p_as rfl) ?_
    refine lj_seq ?_
    refine cj_seq ?_
    refine cj_reg ?_
    refine lp rfl (p_mv rfl) ?_
    refine lp rfl (p_lss rfl rfl) ?_
    refine lj_seq ?_
    refine cj_if (b := decide ((w64 (u6 - y11)) < 0)) rfl (fun hb => ?_) (fun hb => ?_)
    · have hm := ifB_t hb hm
      refine cj_seq ?_
      refine cj_seq ?_
      refine cj_reg ?_
      refine lp rfl (p_fab fl50_0 rfl) ?_
      refine lp rfl (p_lbs ty3 rfl (j := 0) rfl rfl) ?_
      refine lp rfl (p_eql rfl rfl) ?_
      refine lj_seq ?_
      refine cj_if (b := x4.Note == (-1)) rfl (fun hb => ?_) (fun hb => ?_)
      · have hm := ifB_t hb hm
        refine cj_seq ?_
        refine cj_reg ?_
        refine lp rfl (p_as rfl) ?_
        refine lp rfl (p_as rfl) ?_
        refine lj_seq ?_
        have hm := hRk8 _ (Option.some.inj hm).symm
        obtain rfl := Option.some.inj hm
        exact cj_rt () [] Tryd.results31 (.tmp rfl (.tmp rfl .nil)) rfl rfl
      · have hm := ifB_f hb hm
        refine cj_skip ?_
        refine nj_seq ?_
        refine cj_seq ?_
        refine cj_reg ?_
        refine lp rfl (p_fab fl50_0 rfl) ?_
        refine lp rfl (p_lbs ty3 rfl (j := 0) rfl rfl) ?_
        refine lp rfl (p_as rfl) ?_
        refine lp rfl (p_as rfl) ?_
        refine lj_seq ?_
        have hm := hRk8 _ (Option.some.inj hm).symm
        obtain rfl := Option.some.inj hm
        exact cj_rt () [] Tryd.results31 (.tmp rfl (.tmp rfl .nil)) rfl rfl
    · have hm := ifB_f hb hm
      refine cj_skip ?_
      refine nj_blk ?_
      exact cnk8 _ _ (w64 (u6 - y11)) () (hJk8 _ (Option.some.inj hm).symm) ⟨rfl, rfl, rfl, rfl, rfl, rfl, trivial⟩ (fun _ h => h.picks [1] rfl)
theorem ok_gleeref2_SilentOf_1 (a0 : TTone) {r : Bool} (hm : m_gleeref2_SilentOf_1 a0 = some r) :
    Ctr Tryd.prog 73 [.agg (R50.enc a0).toArray].toArray ([] : List Ent) [] (X := Unit) (fun _ => .bool r) (fun _ => []) := by
  unfold m_gleeref2_SilentOf_1 at hm
  refine ctr_mk (vs := [(0, .agg (R50.enc a0).toArray)]) Tryd.func73 rfl Tryd.ntmps73 rfl ⟨rfl, trivial⟩ (fun w0 A => ?_)
  refine cj_seq ?_
  refine cj_reg ?_
  refine r_bx (cs := [.int .i64 a0.Note, .int .i64 a0.Long.Num, .int .i64 a0.Long.Den, .string a0.Text, .bool a0.Tied]) rfl rfl rfl (fun b1 => ?_)
  refine lp rfl (p_as rfl) ?_
  refine lj_seq ?_
  refine cj_seq ?_
  refine cj_reg ?_
  refine lp rfl (p_fab fl50_0 rfl) ?_
  refine lp rfl (p_lbs ty3 rfl (j := 0) rfl rfl) ?_
  refine lp rfl (p_neq rfl rfl) ?_
  refine lp rfl (p_as rfl) ?_
  refine lj_seq ?_
  obtain rfl := Option.some.inj hm
  exact cj_rt () [] Tryd.results73 (.tmp rfl .nil) rfl rfl
theorem ok_slices_IndexFunc_api_Tone_api_Tone__gleeref2_SilentOf_1 (s0_ : SV) (a0 : (List TTone)) {r : Int} (hm : m_slices_IndexFunc_api_Tone_api_Tone__gleeref2_SilentOf_1 a0 = some r) :
    Ctr Tryd.prog 91 [s0_.v, .func (.func 73) #[] [].toArray].toArray ([] : List Ent) [RdS R50 (SV.v s0_) a0] (X := Unit) (fun _ => .int .i64 r) (fun _ => []) := by
  unfold m_slices_IndexFunc_api_Tone_api_Tone__gleeref2_SilentOf_1 at hm
  refine ctr_mk (vs := [(0, s0_.v), (1, .func (.func 73) #[] [].toArray)]) Tryd.func91 rfl Tryd.ntmps91 rfl ⟨rfl, rfl, trivial⟩ (fun w0 A => ?_)
  refine cj_seq ?_
  refine cj_reg ?_
  refine lp rfl (p_as rfl) ?_
  refine lj_seq ?_
  refine cj_seq ?_
  refine cj_seq ?_
  refine cj_reg ?_
  refine lp rfl (p_mv rfl) ?_
  refine lp rfl (p_len Tryd.underlying28 rfl (.ro 0 rfl)) ?_
  refine lp rfl (p_mv rfl) ?_
  refine lj_seq ?_
  obtain ⟨f7, hf7, hm⟩ := bindS hm
  refine cj_range (γ := Unit) (m := (a0.length : Int)) hf7 () (fun u4 g5 => [(0, s0_.v), (1, .func (.func 73) #[] [].toArray), (4, .int .i64 0)]) (fun u4 g5 => Sat w0 (keys ([] : List Ent)) A [.ro (RdS R50 (SV.v s0_) a0)]) ⟨rfl, rfl, rfl, rfl, rfl, trivial⟩ (fun _ h => h.picks [0] rfl) (nat_lt _) (fun _ h => (FactAt.get (F := RdS R50 (SV.v s0_) a0) (.ro 0 rfl) h).1) (fun _ _ => ⟨rfl, rfl, rfl, rfl⟩) ⟨rfl, rfl, rfl, rfl, rfl⟩ rfl rfl rfl (fun u4 g5 e => ?_) (fun aftk6 i1 x2 u4 g5 k6 hx3 hs J hJk6 hBk6 hX I cnk6 => ?_)
  · have hm := Flow.fin_b e hm
    refine nj_seq ?_
    refine cj_seq ?_
    refine cj_reg ?_
    refine lp rfl (p_as rfl) ?_
    refine lj_seq ?_
    obtain rfl := Option.some.inj hm
    exact cj_rt () [] Tryd.results91 (.tmp rfl .nil) rfl rfl
  · have hRk6 : ∀ t, k6 = .ret t → some t = some r := fun t e => by rw [hX t e] at hm; exact hm
    have hm := hs
    refine cj_seq ?_
    refine cj_reg ?_
    refine lp rfl (p_mv rfl) ?_
    refine lp rfl (p_as rfl) ?_
    refine lj_seq ?_
    refine cj_seq ?_
    refine cj_reg ?_
    refine lp rfl (p_mv rfl) ?_
    refine lp rfl (p_mv rfl) ?_
    refine lp rfl (p_mv rfl) ?_
    refine lp rfl (p_idx Tryd.underlying28 ty50 rfl rfl (.ro 0 rfl) (getI_nat.trans hx3)) ?_
    refine lp rfl (p_lea ty50 rfl (.ro 0 rfl) hx3) ?_
    obtain ⟨y8, hy8, hm⟩ := bindS hm
    refine r_call [] cf73 rfl rfl (ok_gleeref2_SilentOf_1 x2 hy8) rfl rfl .nil (fun _ => rfl) rfl (fun _ => ?_)
    refine lj_seq ?_
    refine cj_if (b := y8) rfl (fun hb => ?_) (fun hb => ?_)
    · have hm := ifB_t hb hm
      refine cj_seq ?_
      refine cj_reg ?_
      refine lp rfl (p_mv rfl) ?_
      refine lp rfl (p_as rfl) ?_
      refine lj_seq ?_
      have hm := hRk6 _ (Option.some.inj hm).symm
      obtain rfl := Option.some.inj hm
      exact cj_rt () [] Tryd.results91 (.tmp rfl .nil) rfl rfl
    · have hm := ifB_f hb hm
      refine cj_skip ?_
      refine nj_blk ?_
      exact cnk6 _ _ () () (hJk6 _ (Option.some.inj hm).symm) ⟨rfl, rfl, rfl, rfl, rfl, trivial⟩ (fun _ h => h.picks [0] rfl)
theorem ok_slices_ContainsFunc_api_Tone_api_Tone__gleeref2_SilentOf_1 (s0_ : SV) (a0 : (List TTone)) {r : Bool} (hm : m_slices_ContainsFunc_api_Tone_api_Tone__gleeref2_SilentOf_1 a0 = some r) :
    Ctr Tryd.prog 67 [s0_.v, .func (.func 73) #[] [].toArray].toArray ([] : List Ent) [RdS R50 (SV.v s0_) a0] (X := Unit) (fun _ => .bool r) (fun _ => []) := by
  unfold m_slices_ContainsFunc_api_Tone_api_Tone__gleeref2_SilentOf_1 at hm
  refine ctr_mk (vs := [(0, s0_.v), (1, .func (.func 73) #[] [].toArray)]) Tryd.func67 rfl Tryd.ntmps67 rfl ⟨rfl, rfl, trivial⟩ (fun w0 A => ?_)
  refine cj_seq ?_
  refine cj_reg ?_
  refine lp rfl (p_as rfl) ?_
  refine lj_seq ?_
  refine cj_seq ?_
  refine cj_reg ?_
  refine lp rfl (p_mv rfl) ?_
  refine lp rfl (p_mv rfl) ?_
  obtain ⟨y1, hy1, hm⟩ := bindS hm
  refine r_call [] cf91 rfl rfl (ok_slices_IndexFunc_api_Tone_api_Tone__gleeref2_SilentOf_1 s0_ a0 hy1) rfl rfl (.cons (.ro 0 rfl) .nil) (fun _ => rfl) rfl (fun _ => ?_)
  refine lp rfl (p_geq rfl rfl) ?_
  refine lp rfl (p_as rfl) ?_
  refine lj_seq ?_
  obtain rfl := Option.some.inj hm
  exact cj_rt () [] Tryd.results67 (.tmp rfl .nil) rfl rfl
theorem ok_gleeref2_SilentOf (s0_ : SV) (a0 : (List TBar)) (s1_ : SV) (a1 : (List TTone)) (a2 : Int) {r : (List TRange)} (hm : m_gleeref2_SilentOf a0 a1 a2 = some r) :
    Ctr Tryd.prog 32 [s0_.v, s1_.v, .int .i64 a2].toArray ([] : List Ent) [RdS R75 (SV.v s0_) a0, RdS R50 (SV.v s1_) a1] (X := SV) (fun s => s.v) (fun s => [.row R37 (SV.v s) r]) := by
  unfold m_gleeref2_SilentOf at hm
  refine ctr_mk (vs := [(0, s0_.v), (1, s1_.v), (2, .int .i64 a2)]) Tryd.func32 rfl Tryd.ntmps32 rfl ⟨rfl, rfl, rfl, trivial⟩ (fun w0 A => ?_)
  refine cj_seq ?_
  refine cj_reg ?_
  refine lp rfl (p_as rfl) ?_
  refine lj_seq ?_
  refine cj_seq ?_
  refine cj_reg ?_
  refine lp rfl (p_as rfl) ?_
  refine lj_seq ?_
  refine cj_seq ?_
  refine cj_reg ?_
  refine lp rfl (p_as rfl) ?_
  refine lj_seq ?_
  refine cj_seq ?_
  refine cj_reg ?_
  refine lp rfl (p_mv rfl) ?_
  refine lp rfl (p_mv rfl) ?_
  obtain ⟨y1, hy1, hm⟩ := bindS hm
  refine r_callN [] cf16 rfl rfl (ok_gleeref2_InBarsOf s0_ a0 s1_ a1 hy1) rfl rfl (.cons (.ro 0 rfl) (.cons (.ro 1 rfl) .nil)) rfl (fun ⟨s2, xg3⟩ => ?_)
  refine r_pure (F := Lk N28 y1 xg3) (.ro 1 rfl) (fun _ h => h.1) (fun hLs2 => ?_)
  refine lp rfl (p_bld [.int .i64 0, .int .i64 0, .int .i64 0, .string ByteArray.empty, .bool false] rfl (fun _ => by kernel_rfl)) ?_
  refine r_bs R50 [(TTone.mk 0 (TFraction.mk 0 0) ByteArray.empty false)] rfl rfl rfl (fun _ => by kernel_rfl) rfl (fun s4 => ?_)
  refine r_fz 0 rfl ?_
  refine r_fact (F := Lk N28 [[(TTone.mk 0 (TFraction.mk 0 0) ByteArray.empty false)]] [([(TTone.mk 0 (TFraction.mk 0 0) ByteArray.empty false)], s4)]) (.imp (.and (.ro 0 rfl) (.nilL N28)) (fun _ h => Lk.cons h.1 h.2)) ?_
  have hLs5 : (([([(TTone.mk 0 (TFraction.mk 0 0) ByteArray.empty false)], s4)] : List ((List TTone) × SV)).map Prod.fst) = ([[(TTone.mk 0 (TFraction.mk 0 0) ByteArray.empty false)]] : List (List TTone)) := rfl
  refine r_bs N28.R [([(TTone.mk 0 (TFraction.mk 0 0) ByteArray.empty false)], s4)] rfl rfl rfl (fun _ => by kernel_rfl) rfl (fun s5 => ?_)
  obtain ⟨q6, hq6, hm⟩ := bindS hm
  refine r_fact (F := Lk N28 q6 (xg3 ++ [([(TTone.mk 0 (TFraction.mk 0 0) ByteArray.empty false)], s4)])) (.imp (.and (.ro 4 rfl) (.ro 1 rfl)) (fun _ h => Lk.app hq6 h.1 h.2)) ?_
  refine r_app (k := 4) Tryd.underlying30 ty28 rfl rfl rfl rfl (.row 1 rfl) (lk_app hq6 hLs2 hLs5) rfl (fun s7 => ?_)
  refine lp rfl (p_as rfl) ?_
  refine lj_seq ?_
  refine cj_seq ?_
  refine cj_seq ?_
  refine cj_reg ?_
  refine lp rfl (p_mv rfl) ?_
  refine lp rfl (p_lenG (lk_app2 hq6 hLs2 hLs5) Tryd.underlying30 rfl (.row 4 rfl)) ?_
  refine lp rfl (p_mv rfl) ?_
  refine lj_seq ?_
  refine cj_nil R37 ?_
  obtain ⟨f16, hf16, hm⟩ := bindS hm
  refine cj_range (γ := SV) (m := (q6.length : Int)) hf16 nilS (fun u13 g14 => [(2, .int .i64 a2), (6, .slice none 0 0), (7, g14.v), (8, .int .i64 u13.1), (20, s7.v)]) (fun u13 g14 => Sat w0 (keys ([] : List Ent)) A [.ro (Lk N28 q6 (xg3 ++ [([(TTone.mk 0 (TFraction.mk 0 0) ByteArray.empty false)], s4)])), .row N28.R (SV.v s7) (xg3 ++ [([(TTone.mk 0 (TFraction.mk 0 0) ByteArray.empty false)], s4)]), .row R37 (SV.v g14) u13.2]) ⟨rfl, rfl, rfl, rfl, rfl, rfl, rfl, trivial⟩ (fun _ h => h.picks [1, 4, 0] rfl) (nat_lt _) (fun _ h => by have h1 := (FactAt.get (F := RdS N28.R (SV.v s7) (xg3 ++ [([(TTone.mk 0 (TFraction.mk 0 0) ByteArray.empty false)], s4)])) (.row 5 rfl) h).1; rw [lk_len (lk_app2 hq6 hLs2 hLs5)] at h1; exact h1) (fun _ _ => ⟨rfl, rfl, rfl, rfl⟩) ⟨rfl, rfl, rfl, rfl, rfl⟩ rfl rfl rfl (fun u13 g14 e => ?_) (fun aftk15 i9 x10 u13 g14 k15 hx11 hs J hJk15 hBk15 hX I cnk15 => ?_)
  · have hm := Flow.fin_b e hm
    refine nj_seq ?_
    refine cj_seq ?_
    refine cj_reg ?_
    refine lp rfl (p_mv rfl) ?_
    refine lp rfl (p_as rfl) ?_
    refine lj_seq ?_
    obtain rfl := Option.some.inj hm
    exact cj_rt g14 [2] Tryd.results32 (.tmp rfl .nil) rfl rfl
  · have hRk15 : ∀ t, k15 = .ret t → some t = some r := fun t e => by rw [hX t e] at hm; exact hm
    have hm := hs
    refine cj_seq ?_
    refine cj_reg ?_
    refine lp rfl (p_mv rfl) ?_
    obtain ⟨gx10, hx11G⟩ := lk_get (lk_app2 hq6 hLs2 hLs5) hx11
    refine lp rfl (p_idx Tryd.underlying30 ty28 rfl rfl (.row 1 rfl) (getI_nat.trans hx11G)) ?_
    refine lp rfl (p_lde (o := 0) ty28 rfl rfl (.row 1 rfl) hx11G rfl) ?_
    refine lp rfl (p_as rfl) ?_
    refine lp rfl (p_as rfl) ?_
    refine lj_seq ?_
    refine cj_seq ?_
    refine cj_reg ?_
    refine lp rfl (p_mv rfl) ?_
    obtain ⟨y18, hy18, hm⟩ := bindS hm
    refine r_call [] cf67 rfl rfl (ok_slices_ContainsFunc_api_Tone_api_Tone__gleeref2_SilentOf_1 gx10 x10 hy18) rfl rfl (.cons (.imp (.ro 0 rfl) (fun _ h => (Lk.at_ h hx11G))) .nil) (fun _ => rfl) rfl (fun _ => ?_)
    refine lp rfl (p_not rfl) ?_
    refine lp rfl (p_as rfl) ?_
    refine lj_seq ?_
    refine cj_blk ?_
    refine cj_seq ?_
    refine cj_reg ?_
    obtain ⟨k21, hk21, hm⟩ := bindS hm
    have hRk21 : ∀ t, k21 = .inr t → some t = some k15 := fun t e => by rw [e] at hm; exact hm
    refine lj_join (σ := Bool) (γ := Unit) (fun u19 => k21 = .inl u19) (fun u19 g20 => [(2, .int .i64 a2), (6, .slice none 0 0), (7, g14.v), (8, .int .i64 u13.1), (10, .int .i64 (i9 : Int)), (12, .bool (!y18)), (20, s7.v), (21, .int .i64 (q6.length : Int)), (22, .int .i64 (i9 : Int)), (30, .bool u19)]) (fun u19 g20 => Sat w0 (keys ([] : List Ent)) A [.ro (Lk N28 q6 (xg3 ++ [([(TTone.mk 0 (TFraction.mk 0 0) ByteArray.empty false)], s4)])), .row N28.R (SV.v s7) (xg3 ++ [([(TTone.mk 0 (TFraction.mk 0 0) ByteArray.empty false)], s4)]), .row R37 (SV.v g14) u13.2]) (fun u19 g20 hq => ?_) (fun J cnk21 => ?_)
    · have hm := Sum.fin_l hq hm
      refine cj_if (b := u19) rfl (fun hb => ?_) (fun hb => ?_)
      · have hm := ifB_t hb hm
        refine cj_reg ?_
        refine lp rfl (p_mv rfl) ?_
        refine lp rfl (p_as rfl) ?_
        refine lj_nil ?_
        refine nj_blk ?_
        refine nj_blk ?_
        exact cnk15 _ _ ((i9 : Int), u13.2) g14 (hJk15 _ (Option.some.inj hm).symm) ⟨rfl, rfl, rfl, rfl, rfl, rfl, rfl, trivial⟩ (fun _ h => h.picks [0, 0, 0] rfl)
      · have hm := ifB_f hb hm
        refine cj_seq ?_
        refine cj_reg ?_
        obtain ⟨k24, hk24, hm⟩ := bindS hm
        have hRk24 : ∀ t, k24 = .inr t → some t = some k15 := fun t e => by rw [e] at hm; exact hm
        refine lj_join (σ := Bool) (γ := Unit) (fun u22 => k24 = .inl u22) (fun u22 g23 => [(2, .int .i64 a2), (6, .slice none 0 0), (7, g14.v), (8, .int .i64 u13.1), (10, .int .i64 (i9 : Int)), (20, s7.v), (21, .int .i64 (q6.length : Int)), (22, .int .i64 (i9 : Int)), (37, .bool u22)]) (fun u22 g23 => Sat w0 (keys ([] : List Ent)) A [.ro (Lk N28 q6 (xg3 ++ [([(TTone.mk 0 (TFraction.mk 0 0) ByteArray.empty false)], s4)])), .row N28.R (SV.v s7) (xg3 ++ [([(TTone.mk 0 (TFraction.mk 0 0) ByteArray.empty false)], s4)]), .row R37 (SV.v g14) u13.2]) (fun u22 g23 hq => ?_) (fun J cnk24 => ?_)
        · have hm := Sum.fin_l hq hm
          refine cj_if (b := u22) rfl (fun hb => ?_) (fun hb => ?_)
          · have hm := ifB_t hb hm
            refine cj_seq ?_
            refine cj_seq ?_
            refine cj_reg ?_
            refine lp rfl (p_mv rfl) ?_
            refine lp rfl (p_mv rfl) ?_
            refine lp rfl (p_sub rfl rfl) ?_
            refine lp rfl (p_mv rfl) ?_
            refine lp rfl (p_geq rfl rfl) ?_
            refine lj_seq ?_
            refine cj_if (b := decide ((w64 ((i9 : Int) - u13.1)) ≥ a2)) rfl (fun hb => ?_) (fun hb => ?_)
            · have hm := ifB_t hb hm
              refine cj_reg ?_
              refine lp rfl (p_mv rfl) ?_
              refine lp rfl (p_mv rfl) ?_
              refine lp rfl (p_mv rfl) ?_
              refine lp rfl (p_sub rfl rfl) ?_
              refine lp rfl (p_bld [.int .i64 u13.1, .int .i64 (w64 ((i9 : Int) - 1))] rfl (fun _ => by kernel_rfl)) ?_
              refine r_bs R37 [(TRange.mk u13.1 (w64 ((i9 : Int) - 1)))] rfl rfl rfl (fun _ => by kernel_rfl) rfl (fun s25 => ?_)
              obtain ⟨q26, hq26, hm⟩ := bindS hm
              refine r_app (k := 3) Tryd.underlying61 ty37 rfl rfl rfl rfl (.row 0 rfl) hq26 rfl (fun s27 => ?_)
              refine lp rfl (p_as rfl) ?_
              refine lj_seq ?_
              refine cj_reg ?_
              refine lp rfl (p_as rfl) ?_
              refine lj_nil ?_
              refine nj_blk ?_
              refine nj_blk ?_
              exact cnk15 _ _ ((-1), q26) s27 (hJk15 _ (Option.some.inj hm).symm) ⟨rfl, rfl, rfl, rfl, rfl, rfl, rfl, trivial⟩ (fun _ h => h.picks [1, 1, 1] rfl)
            · have hm := ifB_f hb hm
              refine cj_skip ?_
              refine nj_seq ?_
              refine cj_reg ?_
              refine lp rfl (p_as rfl) ?_
              refine lj_nil ?_
              refine nj_blk ?_
              refine nj_blk ?_
              exact cnk15 _ _ ((-1), u13.2) g14 (hJk15 _ (Option.some.inj hm).symm) ⟨rfl, rfl, rfl, rfl, rfl, rfl, rfl, trivial⟩ (fun _ h => h.picks [0, 0, 0] rfl)
          · have hm := ifB_f hb hm
            refine cj_skip ?_
            refine nj_blk ?_
            refine nj_blk ?_
            exact cnk15 _ _ (u13.1, u13.2) g14 (hJk15 _ (Option.some.inj hm).symm) ⟨rfl, rfl, rfl, rfl, rfl, rfl, rfl, trivial⟩ (fun _ h => h.picks [0, 0, 0] rfl)
        · have hm := hk24
          refine lp rfl (p_mv rfl) ?_
          refine lp rfl (p_not rfl) ?_
          refine lp rfl (p_mv rfl) ?_
          refine lcase (i := 40) (!(!y18)) rfl (fun hb => ?_) (fun hb => ?_)
          · have hm := ifB_t hb hm
            refine lg true rfl rfl rfl ?_
            refine lp rfl (p_mv rfl) ?_
            refine lg true rfl rfl rfl ?_
            refine lp rfl (p_geq rfl rfl) ?_
            refine lp rfl (p_pkt rfl rfl) ?_
            refine lp rfl (p_as rfl) ?_
            refine lj_nil ?_
            exact cnk24 _ _ (decide (u13.1 ≥ 0)) () (Option.some.inj hm).symm ⟨rfl, rfl, rfl, rfl, rfl, rfl, rfl, rfl, rfl, trivial⟩ (fun _ h => h.picks [0, 0, 0] rfl)
          · have hm := ifB_f hb hm
            refine ls true rfl rfl rfl rfl ?_
            refine ls true rfl rfl rfl rfl ?_
            refine lp rfl (p_pkf rfl rfl) ?_
            refine lp rfl (p_as rfl) ?_
            refine lj_nil ?_
            exact cnk24 _ _ false () (Option.some.inj hm).symm ⟨rfl, rfl, rfl, rfl, rfl, rfl, rfl, rfl, rfl, trivial⟩ (fun _ h => h.picks [0, 0, 0] rfl)
    · have hm := hk21
      refine lp rfl (p_mv rfl) ?_
      refine lp rfl (p_mv rfl) ?_
      refine lcase (i := 32) (!y18) rfl (fun hb => ?_) (fun hb => ?_)
      · have hm := ifB_t hb hm
        refine lg true rfl rfl rfl ?_
        refine lp rfl (p_mv rfl) ?_
        refine lg true rfl rfl rfl ?_
        refine lp rfl (p_lss rfl rfl) ?_
        refine lp rfl (p_pkt rfl rfl) ?_
        refine lp rfl (p_as rfl) ?_
        refine lj_nil ?_
        exact cnk21 _ _ (decide (u13.1 < 0)) () (Option.some.inj hm).symm ⟨rfl, rfl, rfl, rfl, rfl, rfl, rfl, rfl, rfl, rfl, trivial⟩ (fun _ h => h.picks [0, 0, 0] rfl)
      · have hm := ifB_f hb hm
        refine ls true rfl rfl rfl rfl ?_
        refine ls true rfl rfl rfl rfl ?_
        refine lp rfl (p_pkf rfl rfl) ?_
        refine lp rfl (p_as rfl) ?_
        refine lj_nil ?_
        exact cnk21 _ _ false () (Option.some.inj hm).symm ⟨rfl, rfl, rfl, rfl, rfl, rfl, rfl, rfl, rfl, rfl, trivial⟩ (fun _ h => h.picks [0, 0, 0] rfl)
theorem ok_slices_Equal_api_Range_api_Range (s0_ : SV) (a0 : (List TRange)) (s1_ : SV) (a1 : (List TRange)) {r : Bool} (hm : m_slices_Equal_api_Range_api_Range a0 a1 = some r) :
    Ctr Tryd.prog 33 [s0_.v, s1_.v].toArray ([] : List Ent) [RdS R37 (SV.v s0_) a0, RdS R37 (SV.v s1_) a1] (X := Unit) (fun _ => .bool r) (fun _ => []) := by
  unfold m_slices_Equal_api_Range_api_Range at hm
  refine ctr_mk (vs := [(0, s0_.v), (1, s1_.v)]) Tryd.func33 rfl Tryd.ntmps33 rfl ⟨rfl, rfl, trivial⟩ (fun w0 A => ?_)
  refine cj_seq ?_
  refine cj_reg ?_
  refine lp rfl (p_as rfl) ?_
  refine lj_seq ?_
  refine cj_seq ?_
  refine cj_seq ?_
  refine cj_reg ?_
  refine lp rfl (p_mv rfl) ?_
  refine lp rfl (p_len Tryd.underlying61 rfl (.ro 0 rfl)) ?_
  refine lp rfl (p_mv rfl) ?_
  refine lp rfl (p_len Tryd.underlying61 rfl (.ro 1 rfl)) ?_
  refine lp rfl (p_neq rfl rfl) ?_
  refine lj_seq ?_
  refine cj_if (b := (a0.length : Int) != (a1.length : Int)) rfl (fun hb => ?_) (fun hb => ?_)
  · have hm := ifB_t hb hm
    refine cj_seq ?_
    refine cj_reg ?_
    refine lp rfl (p_as rfl) ?_
    refine lj_seq ?_
    obtain rfl := Option.some.inj hm
    exact cj_rt () [] Tryd.results33 (.tmp rfl .nil) rfl rfl
  · have hm := ifB_f hb hm
    refine cj_skip ?_
    refine nj_seq ?_
    refine cj_seq ?_
    refine cj_seq ?_
    refine cj_reg ?_
    refine lp rfl (p_mv rfl) ?_
    refine lp rfl (p_len Tryd.underlying61 rfl (.ro 0 rfl)) ?_
    refine lp rfl (p_mv rfl) ?_
    refine lj_seq ?_
    obtain ⟨f7, hf7, hm⟩ := bindS hm
    refine cj_range (γ := Unit) (m := (a0.length : Int)) hf7 () (fun u4 g5 => [(0, s0_.v), (1, s1_.v), (4, .bool false)]) (fun u4 g5 => Sat w0 (keys ([] : List Ent)) A [.ro (RdS R37 (SV.v s0_) a0), .ro (RdS R37 (SV.v s1_) a1)]) ⟨rfl, rfl, rfl, rfl, rfl, trivial⟩ (fun _ h => h.picks [0, 0] rfl) (nat_lt _) (fun _ h => (FactAt.get (F := RdS R37 (SV.v s0_) a0) (.ro 0 rfl) h).1) (fun _ _ => ⟨rfl, rfl, rfl, rfl⟩) ⟨rfl, rfl, rfl, rfl, rfl⟩ rfl rfl rfl (fun u4 g5 e => ?_) (fun aftk6 i1 x2 u4 g5 k6 hx3 hs J hJk6 hBk6 hX I cnk6 => ?_)
    · have hm := Flow.fin_b e hm
      refine nj_seq ?_
      refine cj_seq ?_
      refine cj_reg ?_
      refine lp rfl (p_as rfl) ?_
      refine lj_seq ?_
      obtain rfl := Option.some.inj hm
      exact cj_rt () [] Tryd.results33 (.tmp rfl .nil) rfl rfl
    · have hRk6 : ∀ t, k6 = .ret t → some t = some r := fun t e => by rw [hX t e] at hm; exact hm
      have hm := hs
      refine cj_seq ?_
      refine cj_reg ?_
      refine lp rfl (p_mv rfl) ?_
      refine lp rfl (p_as rfl) ?_
      refine lj_seq ?_
      refine cj_seq ?_
      refine cj_quiet (by kernel_rfl) (by kernel_rfl) ?_
      refine q_p rfl (p_mv rfl) ?_
      refine q_p rfl (p_mv rfl) ?_
      refine q_p rfl (p_idx Tryd.underlying61 ty37 rfl rfl (.ro 0 rfl) (getI_nat.trans hx3)) ?_
      refine q_p rfl (p_lea ty37 rfl (.ro 0 rfl) hx3) ?_
      refine q_p rfl (p_mv rfl) ?_
      refine q_p rfl (p_mv rfl) ?_
      obtain ⟨e8, he8, hm⟩ := bindS hm
      refine q_p rfl (p_idx Tryd.underlying61 ty37 rfl rfl (.ro 1 rfl) he8) ?_
      refine q_p rfl (p_lea ty37 rfl (.ro 1 rfl) (getI_spec he8).2) ?_
      refine q_p rfl (p_nest (by kernel_rfl) rfl rfl (eqst37 x2 e8)) ?_
      refine q_nil ?_
      refine nj_seq ?_
      refine cj_if (b := !(decide (x2 = e8))) rfl (fun hb => ?_) (fun hb => ?_)
      · have hm := ifB_t hb hm
        refine cj_seq ?_
        refine cj_reg ?_
        refine lp rfl (p_as rfl) ?_
        refine lj_seq ?_
        have hm := hRk6 _ (Option.some.inj hm).symm
        obtain rfl := Option.some.inj hm
        exact cj_rt () [] Tryd.results33 (.tmp rfl .nil) rfl rfl
      · have hm := ifB_f hb hm
        refine cj_skip ?_
        refine nj_blk ?_
        exact cnk6 _ _ () () (hJk6 _ (Option.some.inj hm).symm) ⟨rfl, rfl, rfl, rfl, rfl, trivial⟩ (fun _ h => h.picks [0, 0] rfl)
theorem ok_gleelaw2_TonesSound (s0_ : SV) (a0 : (List Int)) {r : Bool} (hm : m_gleelaw2_TonesSound a0 = some r) :
    Ctr Tryd.prog 4 [s0_.v].toArray ([] : List Ent) [RdS R3 (SV.v s0_) a0, UtfT] (X := Unit) (fun _ => .bool r) (fun _ => []) := by
  unfold m_gleelaw2_TonesSound at hm
  refine ctr_mk (vs := [(0, s0_.v)]) Tryd.func4 rfl Tryd.ntmps4 rfl ⟨rfl, trivial⟩ (fun w0 A => ?_)
  refine cj_seq ?_
  refine cj_reg ?_
  refine lp rfl (p_as rfl) ?_
  refine lj_seq ?_
  refine cj_seq ?_
  refine cj_reg ?_
  refine lp rfl (p_mv rfl) ?_
  refine lp rfl (p_bld [s0_.v, .int .i64 0] rfl (fun _ => by kernel_rfl)) ?_
  refine r_bx (cs := [s0_.v, .int .i64 0]) rfl rfl rfl (fun b1 => ?_)
  refine lp rfl (p_as rfl) ?_
  refine lj_seq ?_
  refine cj_seq ?_
  refine cj_reg ?_
  refine lp rfl (p_mv rfl) ?_
  obtain ⟨y2, hy2, hm⟩ := bindS hm
  refine r_call [0] cf5 rfl rfl (ok_gleemake_Stream_Bars b1 s0_ a0 0 hy2) rfl rfl (.cons (.ro 0 rfl) .nil) (fun _ => rfl) rfl (fun s3 => ?_)
  refine lp rfl (p_as rfl) ?_
  refine lj_seq ?_
  refine cj_seq ?_
  refine cj_reg ?_
  refine lp rfl (p_mv rfl) ?_
  refine lp rfl (p_mv rfl) ?_
  obtain ⟨y4, hy4, hm⟩ := bindS hm
  refine r_call [1] cf6 rfl rfl (ok_gleemake_Stream_Tones b1 s0_ a0 y2.2 s3 y2.1 hy4) rfl rfl (.cons (.ro 1 rfl) (.cons (.row 0 rfl) .nil)) (fun _ => rfl) rfl (fun s5 => ?_)
  refine lp rfl (p_mv rfl) ?_
  refine r_bs R3 [0, 5, (-12), 60, 64, (-60), (-128), 128] rfl rfl rfl (fun _ => by kernel_rfl) rfl (fun s6 => ?_)
  obtain ⟨y7, hy7, hm⟩ := bindS hm
  refine r_call [2] cf20 rfl rfl (ok_gleemake_Stream_Pick b1 s0_ a0 y4.2 s6 [0, 5, (-12), 60, 64, (-60), (-128), 128] hy7) rfl rfl (.cons (.ro 3 rfl) (.cons (.row 0 rfl) .nil)) (fun _ => rfl) rfl (fun _ => ?_)
  refine lp rfl (p_mv rfl) ?_
  obtain ⟨y8, hy8, hm⟩ := bindS hm
  refine r_call [0] cf21 rfl rfl (ok_gleemake_Stream_ATime b1 s0_ a0 y7.2 hy8) rfl rfl (.cons (.ro 3 rfl) .nil) (fun _ => rfl) rfl (fun _ => ?_)
  refine lp rfl (p_mv rfl) ?_
  refine r_bs R3 [1, 1, 2, 0, 301] rfl rfl rfl (fun _ => by kernel_rfl) rfl (fun s9 => ?_)
  obtain ⟨y10, hy10, hm⟩ := bindS hm
  refine r_call [1] cf20 rfl rfl (ok_gleemake_Stream_Pick b1 s0_ a0 y8.2 s9 [1, 1, 2, 0, 301] hy10) rfl rfl (.cons (.ro 4 rfl) (.cons (.row 0 rfl) .nil)) (fun _ => rfl) rfl (fun _ => ?_)
  refine r_al ty48 rfl (fun b11 => ?_)
  refine lp rfl (p_as rfl) ?_
  refine lp rfl (p_as rfl) ?_
  refine r_sb (vs := [.int .i64 y8.1.Num, .int .i64 y8.1.Den]) (j := 0) ty48 rfl rfl rfl rfl rfl rfl rfl ?_
  refine lp rfl (p_as rfl) ?_
  refine lj_seq ?_
  refine cj_seq ?_
  refine cj_reg ?_
  refine lp rfl (p_mv rfl) ?_
  refine lp rfl (p_mv rfl) ?_
  refine lp rfl (p_mv rfl) ?_
  obtain ⟨y12, hy12, hm⟩ := bindS hm
  refine r_call [] cf22 rfl rfl (ok_piece_Shift s3 y2.1 s5 y4.1 y7.1 hy12) rfl rfl (.cons (.row 5 rfl) (.cons (.row 4 rfl) (.cons (.ro 7 rfl) .nil))) (fun _ => rfl) rfl (fun s13 => ?_)
  refine lp rfl (p_mv rfl) ?_
  refine lp rfl (p_ext rfl rfl) ?_
  refine lp rfl (p_ext rfl rfl) ?_
  refine lp rfl (p_as rfl) ?_
  refine lp rfl (p_as rfl) ?_
  refine lj_seq ?_
  refine cj_seq ?_
  refine cj_reg ?_
  refine lp rfl (p_mv rfl) ?_
  refine lp rfl (p_mv rfl) ?_
  refine lp rfl (p_lbw ty48 rfl (j := 1) rfl rfl) ?_
  obtain ⟨y14, hy14, hm⟩ := bindS hm
  refine r_call [] cf23 rfl rfl (ok_piece_Sounds s3 y2.1 s5 y4.1 y8.1 hy14) rfl rfl (.cons (.row 6 rfl) (.cons (.row 5 rfl) (.cons (.ro 8 rfl) .nil))) (fun _ => rfl) rfl (fun _ => ?_)
  refine lp rfl (p_mv rfl) ?_
  refine lp rfl (p_ext rfl rfl) ?_
  refine lp rfl (p_ext rfl rfl) ?_
  refine lp rfl (p_ext rfl rfl) ?_
  refine lp rfl (p_as rfl) ?_
  refine lp rfl (p_as rfl) ?_
  refine lp rfl (p_as rfl) ?_
  refine lj_seq ?_
  refine cj_seq ?_
  refine cj_reg ?_
  refine lp rfl (p_mv rfl) ?_
  refine lp rfl (p_mv rfl) ?_
  obtain ⟨y15, hy15, hm⟩ := bindS hm
  refine r_call [] cf24 rfl rfl (ok_piece_Lyrics s3 y2.1 s5 y4.1 hy15) rfl rfl (.cons (.row 6 rfl) (.cons (.row 5 rfl) (.cons (.ro 8 rfl) .nil))) (fun _ => rfl) rfl (fun _ => ?_)
  refine lp rfl (p_mv rfl) ?_
  refine lp rfl (p_ext rfl rfl) ?_
  refine lp rfl (p_ext rfl rfl) ?_
  refine lp rfl (p_as rfl) ?_
  refine lp rfl (p_as rfl) ?_
  refine lj_seq ?_
  refine cj_seq ?_
  refine cj_reg ?_
  refine lp rfl (p_mv rfl) ?_
  refine lp rfl (p_mv rfl) ?_
  refine lp rfl (p_mv rfl) ?_
  obtain ⟨y16, hy16, hm⟩ := bindS hm
  refine r_call [] cf25 rfl rfl (ok_piece_Silent s3 y2.1 s5 y4.1 y10.1 hy16) rfl rfl (.cons (.row 6 rfl) (.cons (.row 5 rfl) (.cons (.ro 8 rfl) .nil))) (fun _ => rfl) rfl (fun s17 => ?_)
  refine lp rfl (p_mv rfl) ?_
  refine lp rfl (p_ext rfl rfl) ?_
  refine lp rfl (p_ext rfl rfl) ?_
  refine lp rfl (p_as rfl) ?_
  refine lp rfl (p_as rfl) ?_
  refine lj_seq ?_
  refine cj_seq ?_
  refine cj_reg ?_
  refine lp rfl (p_mv rfl) ?_
  refine lp rfl (p_mv rfl) ?_
  obtain ⟨y18, hy18, hm⟩ := bindS hm
  refine r_call [] cf11 rfl rfl (ok_gleeref2_TonesFault s3 y2.1 s5 y4.1 hy18) rfl rfl (.cons (.row 7 rfl) (.cons (.row 6 rfl) (.cons (.ro 9 rfl) .nil))) (fun _ => rfl) rfl (fun _ => ?_)
  refine lp rfl (p_as rfl) ?_
  refine lj_seq ?_
  refine cj_seq ?_
  refine cj_reg ?_
  refine lp rfl (p_mv rfl) ?_
  refine lp rfl (p_mv rfl) ?_
  refine lp rfl (p_mv rfl) ?_
  refine lp rfl (p_as rfl) ?_
  refine lp rfl (p_as rfl) ?_
  refine lp rfl (p_as rfl) ?_
  refine lj_seq ?_
  refine cj_seq ?_
  refine cj_reg ?_
  obtain ⟨k21, hk21, hm⟩ := bindS hm
  have hRk21 : ∀ t, k21 = .inr t → some t = some r := fun t e => by rw [e] at hm; exact hm
  refine lj_join (σ := Int) (γ := Unit) (fun u19 => k21 = .inl u19) (fun u19 g20 => [(2, .bool false), (4, s3.v), (5, s5.v), (6, .int .i64 y7.1), (7, .pointer (some ⟨b11, 0, none⟩)), (8, .int .i64 y10.1), (9, s13.v), (10, .int .i64 y12.2), (11, .int .i64 y14.1), (12, .bool y14.2.1), (13, .int .i64 y14.2.2), (14, .string y15.1), (15, .int .i64 y15.2), (16, s17.v), (17, .int .i64 y16.2), (18, .int .i64 y18), (19, .int .i64 y18), (20, .int .i64 y18), (21, .int .i64 y18), (22, .int .i64 u19)]) (fun u19 g20 => Sat w0 (keys ([] : List Ent)) A [.row R37 (SV.v s17) y16.1, .row R50 (SV.v s13) y12.1, .box b11 48 [.int .i64 y8.1.Num, .int .i64 y8.1.Den], .row R50 (SV.v s5) y4.1, .row R75 (SV.v s3) y2.1, .ro UtfT]) (fun u19 g20 hq => ?_) (fun J cnk21 => ?_)
  · have hm := Sum.fin_l hq hm
    refine cj_seq ?_
    refine cj_reg ?_
    refine lp rfl (p_as rfl) ?_
    refine lj_seq ?_
    refine cj_seq ?_
    refine cj_reg ?_
    refine lp rfl (p_as rfl) ?_
    refine lp rfl (p_as rfl) ?_
    refine lp rfl (p_as rfl) ?_
    refine lj_seq ?_
    refine cj_seq ?_
    refine cj_seq ?_
    refine cj_reg ?_
    refine lp rfl (p_mv rfl) ?_
    refine lp rfl (p_eql rfl rfl) ?_
    refine lj_seq ?_
    obtain ⟨k31, hk31, hm⟩ := bindS hm
    have hRk31 : ∀ t, k31 = .inr t → some t = some r := fun t e => by rw [e] at hm; exact hm
    refine cj_joinK (σ := (Int × Int × Int × Int × Bool × ByteArray × (List TTone))) (γ := SV) (fun u28 => k31 = .inl u28) (fun u28 g29 => [(2, .bool false), (4, s3.v), (5, s5.v), (8, .int .i64 y10.1), (9, s13.v), (10, .int .i64 y12.2), (11, .int .i64 y14.1), (12, .bool y14.2.1), (13, .int .i64 y14.2.2), (14, .string y15.1), (15, .int .i64 y15.2), (16, s17.v), (17, .int .i64 y16.2), (19, .int .i64 u28.1), (20, .int .i64 u28.2.1), (21, .int .i64 u28.2.2.1), (22, .int .i64 u19), (23, g29.v), (24, .int .i64 u28.2.2.2.1), (25, .bool u28.2.2.2.2.1), (26, .string u28.2.2.2.2.2.1)]) (fun u28 g29 => Sat w0 (keys ([] : List Ent)) A [.row R37 (SV.v s17) y16.1, .row R50 (SV.v s13) y12.1, .row R50 (SV.v s5) y4.1, .row R75 (SV.v s3) y2.1, .ro UtfT, .row R50 (SV.v g29) u28.2.2.2.2.2.2]) (fun u28 g29 hq => ?_) (fun J cnk31 => ?_)
    · have hm := Sum.fin_l hq hm
      refine cj_seq ?_
      refine cj_reg ?_
      refine lp rfl (p_as rfl) ?_
      refine lj_seq ?_
      refine cj_seq ?_
      refine cj_seq ?_
      refine cj_reg ?_
      refine lp rfl (p_mv rfl) ?_
      refine lp rfl (p_eql rfl rfl) ?_
      refine lj_seq ?_
      obtain ⟨k41, hk41, hm⟩ := bindS hm
      have hRk41 : ∀ t, k41 = .inr t → some t = some r := fun t e => by rw [e] at hm; exact hm
      refine cj_joinK (σ := (List TRange)) (γ := SV) (fun u38 => k41 = .inl u38) (fun u38 g39 => [(2, .bool false), (9, s13.v), (10, .int .i64 y12.2), (11, .int .i64 y14.1), (12, .bool y14.2.1), (13, .int .i64 y14.2.2), (14, .string y15.1), (15, .int .i64 y15.2), (16, s17.v), (17, .int .i64 y16.2), (19, .int .i64 u28.1), (20, .int .i64 u28.2.1), (21, .int .i64 u28.2.2.1), (22, .int .i64 u19), (23, g29.v), (24, .int .i64 u28.2.2.2.1), (25, .bool u28.2.2.2.2.1), (26, .string u28.2.2.2.2.2.1), (27, g39.v)]) (fun u38 g39 => Sat w0 (keys ([] : List Ent)) A [.row R37 (SV.v s17) y16.1, .row R50 (SV.v s13) y12.1, .ro UtfT, .row R50 (SV.v g29) u28.2.2.2.2.2.2, .row R37 (SV.v g39) u38]) (fun u38 g39 hq => ?_) (fun J cnk41 => ?_)
      · have hm := Sum.fin_l hq hm
        refine cj_seq ?_
        refine cj_reg ?_
        refine lp rfl (p_mv rfl) ?_
        refine lp rfl (p_mv rfl) ?_
        refine lp rfl (p_eql rfl rfl) ?_
        refine lp rfl (p_mv rfl) ?_
        refine lcase (i := 122) (y12.2 == u28.1) rfl (fun hb => ?_) (fun hb => ?_)
        · have hm := ifB_t hb hm
          refine lg true rfl rfl rfl ?_
          refine lp rfl (p_mv rfl) ?_
          refine lg true rfl rfl rfl ?_
          refine lp rfl (p_mv rfl) ?_
          refine lg true rfl rfl rfl ?_
          obtain ⟨y45, hy45, hm⟩ := bindS hm
          refine r_call [] cf17 rfl rfl (ok_slices_Equal_api_Tone_api_Tone s13 y12.1 g29 u28.2.2.2.2.2.2 hy45) rfl rfl (.cons (.row 1 rfl) (.cons (.row 3 rfl) .nil)) (fun _ => rfl) rfl (fun _ => ?_)
          refine lp rfl (p_pkt rfl rfl) ?_
          refine lp rfl (p_mv rfl) ?_
          refine lcase (i := 127) y45 rfl (fun hb => ?_) (fun hb => ?_)
          · have hm := ifB_t hb hm
            refine lg true rfl rfl rfl ?_
            refine lp rfl (p_mv rfl) ?_
            refine lg true rfl rfl rfl ?_
            refine lp rfl (p_mv rfl) ?_
            refine lg true rfl rfl rfl ?_
            refine lp rfl (p_eql rfl rfl) ?_
            refine lp rfl (p_pkt rfl rfl) ?_
            refine lp rfl (p_mv rfl) ?_
            refine lcase (i := 132) (y14.2.2 == u28.2.1) rfl (fun hb => ?_) (fun hb => ?_)
            · have hm := ifB_t hb hm
              refine lg true rfl rfl rfl ?_
              refine lp rfl (p_mv rfl) ?_
              refine lg true rfl rfl rfl ?_
              refine lp rfl (p_mv rfl) ?_
              refine lg true rfl rfl rfl ?_
              refine lp rfl (p_eql rfl rfl) ?_
              refine lp rfl (p_pkt rfl rfl) ?_
              refine lp rfl (p_mv rfl) ?_
              refine lcase (i := 137) (y14.1 == u28.2.2.2.1) rfl (fun hb => ?_) (fun hb => ?_)
              · have hm := ifB_t hb hm
                refine lg true rfl rfl rfl ?_
                refine lp rfl (p_mv rfl) ?_
                refine lg true rfl rfl rfl ?_
                refine lp rfl (p_mv rfl) ?_
                refine lg true rfl rfl rfl ?_
                refine lp rfl (p_eqb Tryd.underlying4 rfl rfl) ?_
                refine lp rfl (p_pkt rfl rfl) ?_
                refine lp rfl (p_mv rfl) ?_
                refine lcase (i := 142) (y14.2.1 == u28.2.2.2.2.1) rfl (fun hb => ?_) (fun hb => ?_)
                · have hm := ifB_t hb hm
                  refine lg true rfl rfl rfl ?_
                  refine lp rfl (p_mv rfl) ?_
                  refine lg true rfl rfl rfl ?_
                  refine lp rfl (p_mv rfl) ?_
                  refine lg true rfl rfl rfl ?_
                  refine lp rfl (p_eql rfl rfl) ?_
                  refine lp rfl (p_pkt rfl rfl) ?_
                  refine lp rfl (p_mv rfl) ?_
                  refine lcase (i := 147) (y15.2 == u28.2.2.1) rfl (fun hb => ?_) (fun hb => ?_)
                  · have hm := ifB_t hb hm
                    refine lg true rfl rfl rfl ?_
                    refine lp rfl (p_mv rfl) ?_
                    refine lg true rfl rfl rfl ?_
                    refine lp rfl (p_mv rfl) ?_
                    refine lg true rfl rfl rfl ?_
                    refine lp rfl (p_eqs rfl rfl) ?_
                    refine lp rfl (p_pkt rfl rfl) ?_
                    refine lp rfl (p_mv rfl) ?_
                    refine lcase (i := 152) (y15.1.toList == u28.2.2.2.2.2.1.toList) rfl (fun hb => ?_) (fun hb => ?_)
                    · have hm := ifB_t hb hm
                      refine lg true rfl rfl rfl ?_
                      refine lp rfl (p_mv rfl) ?_
                      refine lg true rfl rfl rfl ?_
                      refine lp rfl (p_mv rfl) ?_
                      refine lg true rfl rfl rfl ?_
                      refine lp rfl (p_eql rfl rfl) ?_
                      refine lp rfl (p_pkt rfl rfl) ?_
                      refine lp rfl (p_mv rfl) ?_
                      refine lcase (i := 157) (y16.2 == u19) rfl (fun hb => ?_) (fun hb => ?_)
                      · have hm := ifB_t hb hm
                        refine lg true rfl rfl rfl ?_
                        refine lp rfl (p_mv rfl) ?_
                        refine lg true rfl rfl rfl ?_
                        refine lp rfl (p_mv rfl) ?_
                        refine lg true rfl rfl rfl ?_
                        obtain ⟨y46, hy46, hm⟩ := bindS hm
                        refine r_call [] cf33 rfl rfl (ok_slices_Equal_api_Range_api_Range s17 y16.1 g39 u38 hy46) rfl rfl (.cons (.row 0 rfl) (.cons (.row 4 rfl) .nil)) (fun _ => rfl) rfl (fun _ => ?_)
                        refine lp rfl (p_pkt rfl rfl) ?_
                        refine lp rfl (p_mv rfl) ?_
                        refine lcase (i := 162) y46 rfl (fun hb => ?_) (fun hb => ?_)
                        · have hm := ifB_t hb hm
                          refine lg true rfl rfl rfl ?_
                          obtain ⟨y47, hy47, hm⟩ := bindS hm
                          refine r_call [] cf13 rfl rfl (ok_gleelaw2_written  hy47) rfl rfl .nil (fun _ => rfl) rfl (fun _ => ?_)
                          refine lp rfl (p_pkt rfl rfl) ?_
                          refine lp rfl (p_as rfl) ?_
                          refine lj_seq ?_
                          obtain rfl := Option.some.inj hm
                          exact cj_rt () [] Tryd.results4 (.tmp rfl .nil) rfl rfl
                        · have hm := ifB_f hb hm
                          refine ls true rfl rfl rfl rfl ?_
                          refine lp rfl (p_pkf rfl rfl) ?_
                          refine lp rfl (p_as rfl) ?_
                          refine lj_seq ?_
                          obtain rfl := Option.some.inj hm
                          exact cj_rt () [] Tryd.results4 (.tmp rfl .nil) rfl rfl
                      · have hm := ifB_f hb hm
                        refine ls true rfl rfl rfl rfl ?_
                        refine ls true rfl rfl rfl rfl ?_
                        refine ls true rfl rfl rfl rfl ?_
                        refine lp rfl (p_pkf rfl rfl) ?_
                        refine lp rfl (p_mv rfl) ?_
                        refine ls true rfl rfl rfl rfl ?_
                        refine lp rfl (p_pkf rfl rfl) ?_
                        refine lp rfl (p_as rfl) ?_
                        refine lj_seq ?_
                        obtain rfl := Option.some.inj hm
                        exact cj_rt () [] Tryd.results4 (.tmp rfl .nil) rfl rfl
                    · have hm := ifB_f hb hm
                      refine ls true rfl rfl rfl rfl ?_
                      refine ls true rfl rfl rfl rfl ?_
                      refine ls true rfl rfl rfl rfl ?_
                      refine lp rfl (p_pkf rfl rfl) ?_
                      refine lp rfl (p_mv rfl) ?_
                      refine ls true rfl rfl rfl rfl ?_
                      refine ls true rfl rfl rfl rfl ?_
                      refine ls true rfl rfl rfl rfl ?_
                      refine lp rfl (p_pkf rfl rfl) ?_
                      refine lp rfl (p_mv rfl) ?_
                      refine ls true rfl rfl rfl rfl ?_
                      refine lp rfl (p_pkf rfl rfl) ?_
                      refine lp rfl (p_as rfl) ?_
                      refine lj_seq ?_
                      obtain rfl := Option.some.inj hm
                      exact cj_rt () [] Tryd.results4 (.tmp rfl .nil) rfl rfl
                  · have hm := ifB_f hb hm
                    refine ls true rfl rfl rfl rfl ?_
                    refine ls true rfl rfl rfl rfl ?_
                    refine ls true rfl rfl rfl rfl ?_
                    refine lp rfl (p_pkf rfl rfl) ?_
                    refine lp rfl (p_mv rfl) ?_
                    refine ls true rfl rfl rfl rfl ?_
                    refine ls true rfl rfl rfl rfl ?_
                    refine ls true rfl rfl rfl rfl ?_
                    refine lp rfl (p_pkf rfl rfl) ?_
                    refine lp rfl (p_mv rfl) ?_
                    refine ls true rfl rfl rfl rfl ?_
                    refine ls true rfl rfl rfl rfl ?_
                    refine ls true rfl rfl rfl rfl ?_
                    refine lp rfl (p_pkf rfl rfl) ?_
                    refine lp rfl (p_mv rfl) ?_
                    refine ls true rfl rfl rfl rfl ?_
                    refine lp rfl (p_pkf rfl rfl) ?_
                    refine lp rfl (p_as rfl) ?_
                    refine lj_seq ?_
                    obtain rfl := Option.some.inj hm
                    exact cj_rt () [] Tryd.results4 (.tmp rfl .nil) rfl rfl
                · have hm := ifB_f hb hm
                  refine ls true rfl rfl rfl rfl ?_
                  refine ls true rfl rfl rfl rfl ?_
                  refine ls true rfl rfl rfl rfl ?_
                  refine lp rfl (p_pkf rfl rfl) ?_
                  refine lp rfl (p_mv rfl) ?_
                  refine ls true rfl rfl rfl rfl ?_
                  refine ls true rfl rfl rfl rfl ?_
                  refine ls true rfl rfl rfl rfl ?_
                  refine lp rfl (p_pkf rfl rfl) ?_
                  refine lp rfl (p_mv rfl) ?_
                  refine ls true rfl rfl rfl rfl ?_
                  refine ls true rfl rfl rfl rfl ?_
                  refine ls true rfl rfl rfl rfl ?_
                  refine lp rfl (p_pkf rfl rfl) ?_
                  refine lp rfl (p_mv rfl) ?_
                  refine ls true rfl rfl rfl rfl ?_
                  refine ls true rfl rfl rfl rfl ?_
                  refine ls true rfl rfl rfl rfl ?_
                  refine lp rfl (p_pkf rfl rfl) ?_
                  refine lp rfl (p_mv rfl) ?_
                  refine ls true rfl rfl rfl rfl ?_
                  refine lp rfl (p_pkf rfl rfl) ?_
                  refine lp rfl (p_as rfl) ?_
                  refine lj_seq ?_
                  obtain rfl := Option.some.inj hm
                  exact cj_rt () [] Tryd.results4 (.tmp rfl .nil) rfl rfl
              · have hm := ifB_f hb hm
                refine ls true rfl rfl rfl rfl ?_
                refine ls true rfl rfl rfl rfl ?_
                refine ls true rfl rfl rfl rfl ?_
                refine lp rfl (p_pkf rfl rfl) ?_
                refine lp rfl (p_mv rfl) ?_
                refine ls true rfl rfl rfl rfl ?_
                refine ls true rfl rfl rfl rfl ?_
                refine ls true rfl rfl rfl rfl ?_
                refine lp rfl (p_pkf rfl rfl) ?_
                refine lp rfl (p_mv rfl) ?_
                refine ls true rfl rfl rfl rfl ?_
                refine ls true rfl rfl rfl rfl ?_
                refine ls true rfl rfl rfl rfl ?_
                refine lp rfl (p_pkf rfl rfl) ?_
                refine lp rfl (p_mv rfl) ?_
                refine ls true rfl rfl rfl rfl ?_
                refine ls true rfl rfl rfl rfl ?_
                refine ls true rfl rfl rfl rfl ?_
                refine lp rfl (p_pkf rfl rfl) ?_
                refine lp rfl (p_mv rfl) ?_
                refine ls true rfl rfl rfl rfl ?_
                refine ls true rfl rfl rfl rfl ?_
                refine ls true rfl rfl rfl rfl ?_
                refine lp rfl (p_pkf rfl rfl) ?_
                refine lp rfl (p_mv rfl) ?_
                refine ls true rfl rfl rfl rfl ?_
                refine lp rfl (p_pkf rfl rfl) ?_
                refine lp rfl (p_as rfl) ?_
                refine lj_seq ?_
                obtain rfl := Option.some.inj hm
                exact cj_rt () [] Tryd.results4 (.tmp rfl .nil) rfl rfl
            · have hm := ifB_f hb hm
              refine ls true rfl rfl rfl rfl ?_
              refine ls true rfl rfl rfl rfl ?_
              refine ls true rfl rfl rfl rfl ?_
              refine lp rfl (p_pkf rfl rfl) ?_
              refine lp rfl (p_mv rfl) ?_
              refine ls true rfl rfl rfl rfl ?_
              refine ls true rfl rfl rfl rfl ?_
              refine ls true rfl rfl rfl rfl ?_
              refine lp rfl (p_pkf rfl rfl) ?_
              refine lp rfl (p_mv rfl) ?_
              refine ls true rfl rfl rfl rfl ?_
              refine ls true rfl rfl rfl rfl ?_
              refine ls true rfl rfl rfl rfl ?_
              refine lp rfl (p_pkf rfl rfl) ?_
              refine lp rfl (p_mv rfl) ?_
              refine ls true rfl rfl rfl rfl ?_
              refine ls true rfl rfl rfl rfl ?_
              refine ls true rfl rfl rfl rfl ?_
              refine lp rfl (p_pkf rfl rfl) ?_
              refine lp rfl (p_mv rfl) ?_
              refine ls true rfl rfl rfl rfl ?_
              refine ls true rfl rfl rfl rfl ?_
              refine ls true rfl rfl rfl rfl ?_
              refine lp rfl (p_pkf rfl rfl) ?_
              refine lp rfl (p_mv rfl) ?_
              refine ls true rfl rfl rfl rfl ?_
              refine ls true rfl rfl rfl rfl ?_
              refine ls true rfl rfl rfl rfl ?_
              refine lp rfl (p_pkf rfl rfl) ?_
              refine lp rfl (p_mv rfl) ?_
              refine ls true rfl rfl rfl rfl ?_
              refine lp rfl (p_pkf rfl rfl) ?_
              refine lp rfl (p_as rfl) ?_
              refine lj_seq ?_
              obtain rfl := Option.some.inj hm
              exact cj_rt () [] Tryd.results4 (.tmp rfl .nil) rfl rfl
          · have hm := ifB_f hb hm
            refine ls true rfl rfl rfl rfl ?_
            refine ls true rfl rfl rfl rfl ?_
            refine ls true rfl rfl rfl rfl ?_
            refine lp rfl (p_pkf rfl rfl) ?_
            refine lp rfl (p_mv rfl) ?_
            refine ls true rfl rfl rfl rfl ?_
            refine ls true rfl rfl rfl rfl ?_
            refine ls true rfl rfl rfl rfl ?_
            refine lp rfl (p_pkf rfl rfl) ?_
            refine lp rfl (p_mv rfl) ?_
            refine ls true rfl rfl rfl rfl ?_
            refine ls true rfl rfl rfl rfl ?_
            refine ls true rfl rfl rfl rfl ?_
            refine lp rfl (p_pkf rfl rfl) ?_
            refine lp rfl (p_mv rfl) ?_
            refine ls true rfl rfl rfl rfl ?_
            refine ls true rfl rfl rfl rfl ?_
            refine ls true rfl rfl rfl rfl ?_
            refine lp rfl (p_pkf rfl rfl) ?_
            refine lp rfl (p_mv rfl) ?_
            refine ls true rfl rfl rfl rfl ?_
            refine ls true rfl rfl rfl rfl ?_
            refine ls true rfl rfl rfl rfl ?_
            refine lp rfl (p_pkf rfl rfl) ?_
            refine lp rfl (p_mv rfl) ?_
            refine ls true rfl rfl rfl rfl ?_
            refine ls true rfl rfl rfl rfl ?_
            refine ls true rfl rfl rfl rfl ?_
            refine lp rfl (p_pkf rfl rfl) ?_
            refine lp rfl (p_mv rfl) ?_
            refine ls true rfl rfl rfl rfl ?_
            refine ls true rfl rfl rfl rfl ?_
            refine ls true rfl rfl rfl rfl ?_
            refine lp rfl (p_pkf rfl rfl) ?_
            refine lp rfl (p_mv rfl) ?_
            refine ls true rfl rfl rfl rfl ?_
            refine lp rfl (p_pkf rfl rfl) ?_
            refine lp rfl (p_as rfl) ?_
            refine lj_seq ?_
            obtain rfl := Option.some.inj hm
            exact cj_rt () [] Tryd.results4 (.tmp rfl .nil) rfl rfl
        · have hm := ifB_f hb hm
          refine ls true rfl rfl rfl rfl ?_
          refine ls true rfl rfl rfl rfl ?_
          refine ls true rfl rfl rfl rfl ?_
          refine lp rfl (p_pkf rfl rfl) ?_
          refine lp rfl (p_mv rfl) ?_
          refine ls true rfl rfl rfl rfl ?_
          refine ls true rfl rfl rfl rfl ?_
          refine ls true rfl rfl rfl rfl ?_
          refine lp rfl (p_pkf rfl rfl) ?_
          refine lp rfl (p_mv rfl) ?_
          refine ls true rfl rfl rfl rfl ?_
          refine ls true rfl rfl rfl rfl ?_
          refine ls true rfl rfl rfl rfl ?_
          refine lp rfl (p_pkf rfl rfl) ?_
          refine lp rfl (p_mv rfl) ?_
          refine ls true rfl rfl rfl rfl ?_
          refine ls true rfl rfl rfl rfl ?_
          refine ls true rfl rfl rfl rfl ?_
          refine lp rfl (p_pkf rfl rfl) ?_
          refine lp rfl (p_mv rfl) ?_
          refine ls true rfl rfl rfl rfl ?_
          refine ls true rfl rfl rfl rfl ?_
          refine ls true rfl rfl rfl rfl ?_
          refine lp rfl (p_pkf rfl rfl) ?_
          refine lp rfl (p_mv rfl) ?_
          refine ls true rfl rfl rfl rfl ?_
          refine ls true rfl rfl rfl rfl ?_
          refine ls true rfl rfl rfl rfl ?_
          refine lp rfl (p_pkf rfl rfl) ?_
          refine lp rfl (p_mv rfl) ?_
          refine ls true rfl rfl rfl rfl ?_
          refine ls true rfl rfl rfl rfl ?_
          refine ls true rfl rfl rfl rfl ?_
          refine lp rfl (p_pkf rfl rfl) ?_
          refine lp rfl (p_mv rfl) ?_
          refine ls true rfl rfl rfl rfl ?_
          refine ls true rfl rfl rfl rfl ?_
          refine ls true rfl rfl rfl rfl ?_
          refine lp rfl (p_pkf rfl rfl) ?_
          refine lp rfl (p_mv rfl) ?_
          refine ls true rfl rfl rfl rfl ?_
          refine lp rfl (p_pkf rfl rfl) ?_
          refine lp rfl (p_as rfl) ?_
          refine lj_seq ?_
          obtain rfl := Option.some.inj hm
          exact cj_rt () [] Tryd.results4 (.tmp rfl .nil) rfl rfl
      · have hm := hk41
        refine cj_if (b := u19 == 0) rfl (fun hb => ?_) (fun hb => ?_)
        · have hm := ifB_t hb hm
          refine cj_reg ?_
          refine lp rfl (p_mv rfl) ?_
          refine lp rfl (p_mv rfl) ?_
          refine lp rfl (p_mv rfl) ?_
          obtain ⟨y42, hy42, hm⟩ := bindS hm
          refine r_call [] cf32 rfl rfl (ok_gleeref2_SilentOf s3 y2.1 s5 y4.1 y10.1 hy42) rfl rfl (.cons (.row 3 rfl) (.cons (.row 2 rfl) .nil)) (fun _ => rfl) rfl (fun s43 => ?_)
          refine lp rfl (p_as rfl) ?_
          refine lj_nil ?_
          exact cnk41 _ _ y42 s43 (Option.some.inj hm).symm ⟨rfl, rfl, rfl, rfl, rfl, rfl, rfl, rfl, rfl, rfl, rfl, rfl, rfl, rfl, rfl, rfl, rfl, rfl, rfl, trivial⟩ (fun _ h => h.picks [1, 1, 3, 3, 0] rfl)
        · have hm := ifB_f hb hm
          refine cj_skip ?_
          refine nj_nil R37 ?_
          exact cnk41 _ _ [] nilS (Option.some.inj hm).symm ⟨rfl, rfl, rfl, rfl, rfl, rfl, rfl, rfl, rfl, rfl, rfl, rfl, rfl, rfl, rfl, rfl, rfl, rfl, rfl, trivial⟩ (fun _ h => h.picks [1, 1, 3, 3, 0] rfl)
    · have hm := hk31
      refine cj_if (b := y18 == 0) rfl (fun hb => ?_) (fun hb => ?_)
      · have hm := ifB_t hb hm
        refine cj_seq ?_
        refine cj_reg ?_
        refine lp rfl (p_mv rfl) ?_
        refine lp rfl (p_mv rfl) ?_
        obtain ⟨y32, hy32, hm⟩ := bindS hm
        refine r_call [] cf28 rfl rfl (ok_gleeref2_ShiftOf s5 y4.1 y7.1 hy32) rfl rfl (.cons (.row 3 rfl) .nil) (fun _ => rfl) rfl (fun s33 => ?_)
        refine lp rfl (p_mv rfl) ?_
        refine lp rfl (p_ext rfl rfl) ?_
        refine lp rfl (p_ext rfl rfl) ?_
        refine lp rfl (p_as rfl) ?_
        refine lp rfl (p_as rfl) ?_
        refine lj_seq ?_
        refine cj_seq ?_
        refine cj_reg ?_
        refine lp rfl (p_mv rfl) ?_
        refine lp rfl (p_mv rfl) ?_
        obtain ⟨y34, hy34, hm⟩ := bindS hm
        refine r_call [] cf29 rfl rfl (ok_gleeref2_LyricsOf s3 y2.1 s5 y4.1 hy34) rfl rfl (.cons (.row 5 rfl) (.cons (.row 4 rfl) .nil)) (fun _ => rfl) rfl (fun _ => ?_)
        refine lp rfl (p_mv rfl) ?_
        refine lp rfl (p_ext rfl rfl) ?_
        refine lp rfl (p_ext rfl rfl) ?_
        refine lp rfl (p_as rfl) ?_
        refine lp rfl (p_as rfl) ?_
        refine lj_seq ?_
        refine cj_seq ?_
        refine cj_reg ?_
        refine lp rfl (p_mv rfl) ?_
        refine lp rfl (p_lbw ty48 rfl (j := 3) rfl rfl) ?_
        obtain ⟨y35, hy35, hm⟩ := bindS hm
        refine r_call [] cf30 rfl rfl (ok_gleeref2_SoundsFault s3 y2.1 y8.1 hy35) rfl rfl (.cons (.row 5 rfl) .nil) (fun _ => rfl) rfl (fun _ => ?_)
        refine lp rfl (p_as rfl) ?_
        refine lj_seq ?_
        refine cj_seq ?_
        refine cj_reg ?_
        refine lp rfl (p_mv rfl) ?_
        refine lp rfl (p_eql rfl rfl) ?_
        refine lj_seq ?_
        refine cj_if (b := y35 == 0) rfl (fun hb => ?_) (fun hb => ?_)
        · have hm := ifB_t hb hm
          refine cj_reg ?_
          refine lp rfl (p_mv rfl) ?_
          refine lp rfl (p_lbw ty48 rfl (j := 3) rfl rfl) ?_
          obtain ⟨y36, hy36, hm⟩ := bindS hm
          refine r_call [] cf31 rfl rfl (ok_gleeref2_SoundsOf s5 y4.1 y8.1 hy36) rfl rfl (.cons (.row 4 rfl) .nil) (fun _ => rfl) rfl (fun _ => ?_)
          refine lp rfl (p_mv rfl) ?_
          refine lp rfl (p_ext rfl rfl) ?_
          refine lp rfl (p_ext rfl rfl) ?_
          refine lp rfl (p_as rfl) ?_
          refine lp rfl (p_as rfl) ?_
          refine lj_nil ?_
          exact cnk31 _ _ (y32.2, y35, y34.2, y36.1, y36.2, y34.1, y32.1) s33 (Option.some.inj hm).symm ⟨rfl, rfl, rfl, rfl, rfl, rfl, rfl, rfl, rfl, rfl, rfl, rfl, rfl, rfl, rfl, rfl, rfl, rfl, rfl, rfl, rfl, trivial⟩ (fun _ h => h.picks [1, 1, 2, 2, 2, 0] rfl)
        · have hm := ifB_f hb hm
          refine cj_skip ?_
          exact cnk31 _ _ (y32.2, y35, y34.2, 0, false, y34.1, y32.1) s33 (Option.some.inj hm).symm ⟨rfl, rfl, rfl, rfl, rfl, rfl, rfl, rfl, rfl, rfl, rfl, rfl, rfl, rfl, rfl, rfl, rfl, rfl, rfl, rfl, rfl, trivial⟩ (fun _ h => h.picks [1, 1, 2, 2, 2, 0] rfl)
      · have hm := ifB_f hb hm
        refine cj_skip ?_
        refine nj_nil R50 ?_
        exact cnk31 _ _ (y18, y18, y18, 0, false, ByteArray.empty, []) nilS (Option.some.inj hm).symm ⟨rfl, rfl, rfl, rfl, rfl, rfl, rfl, rfl, rfl, rfl, rfl, rfl, rfl, rfl, rfl, rfl, rfl, rfl, rfl, rfl, rfl, trivial⟩ (fun _ h => h.picks [1, 1, 2, 2, 2, 0] rfl)
  · have hm := hk21
    refine lp rfl (p_mv rfl) ?_
    refine lp rfl (p_mv rfl) ?_
    refine lp rfl (p_lss rfl rfl) ?_
    refine lp rfl (p_mv rfl) ?_
    refine lcase (i := 81) (decide (y10.1 < 1)) rfl (fun hb => ?_) (fun hb => ?_)
    · have hm := ifB_t hb hm
      refine ls false rfl rfl rfl rfl ?_
      refine ls false rfl rfl rfl rfl ?_
      refine lp rfl (p_pkt rfl rfl) ?_
      obtain ⟨y22, hy22, hm⟩ := bindS hm
      refine r_call [] cf27 rfl rfl (ok_gleelaw2_when true 1 hy22) rfl rfl .nil (fun _ => rfl) rfl (fun _ => ?_)
      refine r_bs R31 [y18, y22] rfl rfl rfl (fun _ => by kernel_rfl) rfl (fun s23 => ?_)
      obtain ⟨y24, hy24, hm⟩ := bindS hm
      refine r_call [] cf26 rfl rfl (ok_gleelaw2_errs s23 [y18, y22] hy24) rfl rfl (.cons (.row 0 rfl) .nil) (fun _ => rfl) rfl (fun _ => ?_)
      refine lp rfl (p_as rfl) ?_
      refine lj_nil ?_
      exact cnk21 _ _ y24 () (Option.some.inj hm).symm ⟨rfl, rfl, rfl, rfl, rfl, rfl, rfl, rfl, rfl, rfl, rfl, rfl, rfl, rfl, rfl, rfl, rfl, rfl, rfl, rfl, trivial⟩ (fun _ h => h.picks [1, 1, 1, 4, 4, 5] rfl)
    · have hm := ifB_f hb hm
      refine lg false rfl rfl rfl ?_
      refine lp rfl (p_mv rfl) ?_
      refine lg false rfl rfl rfl ?_
      refine lp rfl (p_gtr rfl rfl) ?_
      refine lp rfl (p_pkf rfl rfl) ?_
      obtain ⟨y25, hy25, hm⟩ := bindS hm
      refine r_call [] cf27 rfl rfl (ok_gleelaw2_when (decide (y10.1 > 300)) 1 hy25) rfl rfl .nil (fun _ => rfl) rfl (fun _ => ?_)
      refine r_bs R31 [y18, y25] rfl rfl rfl (fun _ => by kernel_rfl) rfl (fun s26 => ?_)
      obtain ⟨y27, hy27, hm⟩ := bindS hm
      refine r_call [] cf26 rfl rfl (ok_gleelaw2_errs s26 [y18, y25] hy27) rfl rfl (.cons (.row 0 rfl) .nil) (fun _ => rfl) rfl (fun _ => ?_)
      refine lp rfl (p_as rfl) ?_
      refine lj_nil ?_
      exact cnk21 _ _ y27 () (Option.some.inj hm).symm ⟨rfl, rfl, rfl, rfl, rfl, rfl, rfl, rfl, rfl, rfl, rfl, rfl, rfl, rfl, rfl, rfl, rfl, rfl, rfl, rfl, trivial⟩ (fun _ h => h.picks [1, 1, 1, 4, 4, 5] rfl)
end Go.Proofs.YtnmaaiejcmgdkaaDoor
