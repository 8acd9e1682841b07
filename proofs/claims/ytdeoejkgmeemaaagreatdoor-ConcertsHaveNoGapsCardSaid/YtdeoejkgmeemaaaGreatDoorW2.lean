/- The walks. Written by program. -/
import Derived.Test.YtdeoejkgmeemaaaGreatDoorW1
namespace Go.Proofs.YtdeoejkgmeemaaaGreatDoor
open Go Go.J Go.G
set_option maxRecDepth 100000
set_option linter.unusedVariables false
set_option linter.unusedSimpArgs false
theorem ok_club_counting (s0_ : SV) (a0 : (List TAct)) (a1 : Int) {r : (List Int)} (hm : m_club_counting a0 a1 = some r) :
    Ctr Tryz.prog 76 [s0_.v, .int .i64 a1].toArray ([] : List Ent) [RdS R72 (SV.v s0_) a0] (X := SV) (fun s => s.v) (fun s => [.row R3 (SV.v s) r]) := by
  unfold m_club_counting at hm
  refine ctr_mkM (vs := [(0, s0_.v), (1, .int .i64 a1)]) Tryz.func76 rfl Tryz.ntmps76 rfl ⟨rfl, rfl, trivial⟩ (fun w0 A => ?_)
  refine cj_seq ?_
  refine cj_reg ?_
  refine r_bx (cs := [.int .i64 a1]) rfl rfl rfl (fun b1 => ?_)
  refine lp rfl (p_as rfl) ?_
  refine lj_seq ?_
  refine cj_seq ?_
  refine cj_reg ?_
  refine r_mkmap kv169 vv4 rfl (fun b2 => ?_)
  refine r_al ty167 rfl (fun b3 => ?_)
  refine r_sb (vs := [.map (some b2)]) (j := 0) ty167 rfl rfl rfl rfl rfl rfl rfl ?_
  refine lj_seq ?_
  refine cj_seq ?_
  refine cj_reg ?_
  refine r_al ty22 rfl (fun b4 => ?_)
  refine lj_seq ?_
  refine cj_seq ?_
  refine cj_seq ?_
  refine cj_reg ?_
  refine lp rfl (p_mv rfl) ?_
  refine r_call [] cf108 rfl rfl (ok_slices_Backward_api_Act_api_Act s0_) rfl rfl .nil (fun _ => rfl) rfl (fun b5 => ?_)
  refine r_fzb 0 rfl ?_
  refine lj_seq ?_
  refine cj_nil R3 ?_
  obtain ⟨f16, hf16, hm⟩ := bindS hm
  refine cj_backward (γ := (Array MapEntry × Nat × SV)) (fn := Tryz.f129) Tryz.func129 rfl rfl rfl Tryz.underlying73 ty72 ty73 cf129 rfl rfl rfl (by kernel_rfl) (by kernel_rfl) hf16 (fun u13 g14 => [.ro (BoxS b5 73 [s0_.v]), .box b4 22 [g14.2.2.v], .box b3 167 [.map (some b2)], .obj (mapO kv169 b2 (mpV vv4 u13.1) g14.1 g14.2.1), .box b1 3 [.int .i64 a1], .ro (RdS R72 (SV.v s0_) a0), .row R3 (SV.v g14.2.2) u13.2]) (#[], 0, nilS) (fun _ h => h.picks [1, 1, 1, 1, 1, 1, 0] rfl) (fun _ _ => (.ro 0 rfl)) (fun _ _ => (.ro 5 rfl)) (fun u13 g14 D28 aftk15 => ?_) (fun i6 x7 u13 g14 k15 hx8 hs o9 o10 o11 I I0 hendk15 hmidk15 => ?_)
  · have hm := Flow.fin_b aftk15 hm
    refine nj_seq ?_
    refine cj_seq ?_
    refine cj_reg ?_
    refine lp rfl (p_lbs ty22 rfl (j := 2) rfl rfl) ?_
    obtain ⟨y29, hy29, hm⟩ := bindS hm
    refine r_call [7] cf109 rfl rfl (ok_slices_Reverse_int_int g14.2.2 u13.2 hy29) rfl rfl .nil (fun _ => rfl) rfl (fun _ => ?_)
    refine lj_seq ?_
    refine cj_seq ?_
    refine cj_reg ?_
    refine lp rfl (p_lbs ty22 rfl (j := 3) rfl rfl) ?_
    refine lp rfl (p_as rfl) ?_
    refine lj_seq ?_
    obtain rfl := Option.some.inj hm
    exact cj_rtM 1 g14.2.2 [0] Tryz.results76 rfl (.tmp rfl .nil) rfl rfl
  · have hm := hs
    refine cj_seq ?_
    refine cj_reg ?_
    refine lp rfl (p_as rfl) ?_
    refine lj_seq ?_
    refine cj_reg ?_
    refine r_al ty72 rfl (fun b18 => ?_)
    refine r_sb (vs := [.string x7.Site, .int .i64 x7.No, .int .i64 x7.At, .int .i64 x7.Kind, .string x7.Who, .string x7.Motion, .int .i64 x7.Cents, .bool x7.Yes, .string x7.Of, .int .i64 x7.Other]) (j := 0) ty72 rfl rfl rfl rfl rfl rfl rfl ?_
    refine lj_nil ?_
    refine hmidk15 _ _ [.box b18 72 [.string x7.Site, .int .i64 x7.No, .int .i64 x7.At, .int .i64 x7.Kind, .string x7.Who, .string x7.Motion, .int .i64 x7.Cents, .bool x7.Yes, .string x7.Of, .int .i64 x7.Other], .ro (BoxS b5 73 [s0_.v]), .box b4 22 [g14.2.2.v], .box b3 167 [.map (some b2)], .obj (mapO kv169 b2 (mpV vv4 u13.1) g14.1 g14.2.1), .box b1 3 [.int .i64 a1], .ro (RdS R72 (SV.v s0_) a0), .row R3 (SV.v g14.2.2) u13.2] (fun _ h => h.picks [1, 1, 0, 0, 0, 0, 0, 0, 0, 0] rfl) ?_
    refine cj_blk ?_
    refine cj_seq ?_
    refine cj_seq ?_
    refine cj_reg ?_
    obtain ⟨k21, hk21, hm⟩ := bindS hm
    have hRk21 : ∀ t, k21 = .inr t → some t = some k15 := fun t e => by rw [e] at hm; exact hm
    refine lj_join (σ := Bool) (γ := Unit) (fun u19 => k21 = .inl u19) (fun u19 g20 => [(3, .pointer (some ⟨b1, 0, none⟩)), (4, .slice none 0 0), (5, .pointer (some ⟨b3, 0, none⟩)), (6, .pointer (some ⟨b4, 0, none⟩)), (7, .int .i64 (i6 : Int)), (8, .pointer (some ⟨b18, 0, none⟩)), (11, .func (.func 129) #[] [.pointer (some ⟨b5, 0, none⟩)].toArray), (26, .bool u19)]) (fun u19 g20 => Sat w0 (keys ([] : List Ent)) A [.obj o9, .obj o11, .box b18 72 [.string x7.Site, .int .i64 x7.No, .int .i64 x7.At, .int .i64 x7.Kind, .string x7.Who, .string x7.Motion, .int .i64 x7.Cents, .bool x7.Yes, .string x7.Of, .int .i64 x7.Other], .ro (BoxS b5 73 [s0_.v]), .box b4 22 [g14.2.2.v], .box b3 167 [.map (some b2)], .obj (mapO kv169 b2 (mpV vv4 u13.1) g14.1 g14.2.1), .box b1 3 [.int .i64 a1], .ro (RdS R72 (SV.v s0_) a0), .row R3 (SV.v g14.2.2) u13.2]) (fun u19 g20 hq => ?_) (fun J cnk21 => ?_)
    · have hm := Sum.fin_l hq hm
      refine cj_if (b := u19) rfl (fun hb => ?_) (fun hb => ?_)
      · have hm := ifB_t hb hm
        refine cj_exit rfl ?_
        exact hendk15 _ _ (u13.1, u13.2) (g14.1, g14.2.1, g14.2.2) (Option.some.inj hm).symm (fun _ h => h.picks [0, 0, 1, 1, 1, 1, 1, 1, 1] rfl)
      · have hm := ifB_f hb hm
        refine cj_skip ?_
        refine nj_seq ?_
        refine cj_seq ?_
        refine cj_reg ?_
        refine lp rfl (p_lbs ty22 rfl (j := 4) rfl rfl) ?_
        refine lp rfl (p_mv rfl) ?_
        refine r_bs R3 [(i6 : Int)] rfl rfl rfl (fun _ => by kernel_rfl) rfl (fun s22 => ?_)
        obtain ⟨q23, hq23, hm⟩ := bindS hm
        refine r_app (k := 10) Tryz.underlying22 ty3 rfl rfl rfl rfl (.row 0 rfl) hq23 rfl (fun s24 => ?_)
        refine r_sb (vs := [s24.v]) (j := 5) ty22 rfl rfl rfl rfl rfl rfl rfl ?_
        refine lj_seq ?_
        refine cj_seq ?_
        refine cj_reg ?_
        refine lp rfl (p_fab fl72_3 rfl) ?_
        refine lp rfl (p_lbs ty3 rfl (j := 3) rfl rfl) ?_
        refine lp rfl (p_eql rfl rfl) ?_
        refine lj_seq ?_
        refine cj_if (b := x7.Kind == 7) rfl (fun hb => ?_) (fun hb => ?_)
        · have hm := ifB_t hb hm
          refine cj_reg ?_
          refine lp rfl (p_lbs ty167 rfl (j := 6) rfl rfl) ?_
          refine lp rfl (p_fab fl72_8 rfl) ?_
          refine lp rfl (p_lbs ty9 rfl (j := 3) rfl rfl) ?_
          refine lp rfl (p_fab fl72_9 rfl) ?_
          refine lp rfl (p_lbs ty3 rfl (j := 3) rfl rfl) ?_
          refine lp rfl (p_bld [.string x7.Of, .int .i64 x7.Other] rfl (fun _ => by kernel_rfl)) ?_
          refine r_mpu (j := 7) (vv := vv4) (k := (Tclub_own.mk x7.Of x7.Other)) (v := true) Tryz.underlying167 keyF169 rfl rfl rfl rfl (fun es25 cl26 => ?_)
          refine lj_nil ?_
          refine nj_blk ?_
          exact hendk15 _ _ (putM u13.1 (Tclub_own.mk x7.Of x7.Other) true, q23) (es25, cl26, s24) (Option.some.inj hm).symm (fun _ h => h.picks [1, 1, 2, 2, 2, 2, 2, 2, 2] rfl)
        · have hm := ifB_f hb hm
          refine cj_skip ?_
          refine nj_blk ?_
          exact hendk15 _ _ (u13.1, q23) (g14.1, g14.2.1, s24) (Option.some.inj hm).symm (fun _ h => h.picks [1, 1, 2, 2, 2, 2, 2, 2, 2] rfl)
    · have hm := hk21
      refine lp rfl (p_fab fl72_2 rfl) ?_
      refine lp rfl (p_lbs ty3 rfl (j := 2) rfl rfl) ?_
      refine lp rfl (p_lbs ty3 rfl (j := 7) rfl rfl) ?_
      refine lp rfl (p_gtr rfl rfl) ?_
      refine lp rfl (p_mv rfl) ?_
      refine lcase (i := 18) (decide (x7.At > a1)) rfl (fun hb => ?_) (fun hb => ?_)
      · have hm := ifB_t hb hm
        refine ls false rfl rfl rfl rfl ?_
        refine ls false rfl rfl rfl rfl ?_
        refine ls false rfl rfl rfl rfl ?_
        refine ls false rfl rfl rfl rfl ?_
        refine ls false rfl rfl rfl rfl ?_
        refine ls false rfl rfl rfl rfl ?_
        refine ls false rfl rfl rfl rfl ?_
        refine lp rfl (p_pkt rfl rfl) ?_
        refine lj_nil ?_
        exact cnk21 _ _ true () (Option.some.inj hm).symm ⟨rfl, rfl, rfl, rfl, rfl, rfl, rfl, rfl, trivial⟩ (fun _ h => h.picks [0, 0, 0, 0, 0, 0, 0, 0, 0, 0] rfl)
      · have hm := ifB_f hb hm
        refine lg false rfl rfl rfl ?_
        refine lp rfl (p_lbs ty167 rfl (j := 5) rfl rfl) ?_
        refine lg false rfl rfl rfl ?_
        refine lp rfl (p_fab fl72_0 rfl) ?_
        refine lg false rfl rfl rfl ?_
        refine lp rfl (p_lbs ty9 rfl (j := 2) rfl rfl) ?_
        refine lg false rfl rfl rfl ?_
        refine lp rfl (p_fab fl72_1 rfl) ?_
        refine lg false rfl rfl rfl ?_
        refine lp rfl (p_lbs ty3 rfl (j := 2) rfl rfl) ?_
        refine lg false rfl rfl rfl ?_
        refine lp rfl (p_bld [.string x7.Site, .int .i64 x7.No] rfl (fun _ => by kernel_rfl)) ?_
        refine lg false rfl rfl rfl ?_
        refine lp rfl (p_lkm (vv := vv4) (k := (Tclub_own.mk x7.Site x7.No)) (z := false) Tryz.underlying167 (keyF169) (fun _ => by kernel_rfl) (.map 6 rfl) rfl rfl) ?_
        refine lp rfl (p_pkf rfl rfl) ?_
        refine lj_nil ?_
        exact cnk21 _ _ ((lkM u13.1 (Tclub_own.mk x7.Site x7.No)).getD false) () (Option.some.inj hm).symm ⟨rfl, rfl, rfl, rfl, rfl, rfl, rfl, rfl, trivial⟩ (fun _ h => h.picks [0, 0, 0, 0, 0, 0, 0, 0, 0, 0] rfl)
theorem ok_club_books_isMember (b0_ : Nat) (a0_0 : Int) (b0_1_ : Nat) (Z0_1_ : List (ByteArray × SV)) (es0_1_ : Array MapEntry) (cl0_1_ : Nat) (a0_1 : (List (ByteArray × (List Tclub_stay)))) (b0_2_ : Nat) (es0_2_ : Array MapEntry) (cl0_2_ : Nat) (a0_2 : (List (ByteArray × Int))) (b0_3_ : Nat) (es0_3_ : Array MapEntry) (cl0_3_ : Nat) (a0_3 : (List (ByteArray × Unit))) (s0_4_ : SV) (a0_4 : (List Int)) (a1 : ByteArray) {r : Bool} (hm : m_club_books_isMember a0_0 a0_1 a0_2 a0_3 a0_4 a1 = some r) :
    Ctr Tryz.prog 62 [.pointer (some ⟨b0_, 0, none⟩), .string a1].toArray [.box b0_ 120 [.int .i64 a0_0, .map (some b0_1_), .map (some b0_2_), .map (some b0_3_), s0_4_.v]] [FamAt kv9 SV.v (rowE R140) b0_1_ a0_1 Z0_1_ none es0_1_ cl0_1_, MapAt kv9 b0_2_ (mpV vv3 a0_2) es0_2_ cl0_2_, MapAt kv9 b0_3_ (mpV vv174 a0_3) es0_3_ cl0_3_, RdS R3 (SV.v s0_4_) a0_4] (X := Unit) (fun _ => .bool r) (fun _ => [.box b0_ 120 [.int .i64 a0_0, .map (some b0_1_), .map (some b0_2_), .map (some b0_3_), s0_4_.v]]) := by
  unfold m_club_books_isMember at hm
  refine ctr_mk (vs := [(0, .pointer (some ⟨b0_, 0, none⟩)), (1, .string a1)]) Tryz.func62 rfl Tryz.ntmps62 rfl ⟨rfl, rfl, trivial⟩ (fun w0 A => ?_)
  refine cj_seq ?_
  refine cj_reg ?_
  refine lp rfl (p_as rfl) ?_
  refine lj_seq ?_
  refine cj_seq ?_
  refine cj_reg ?_
  refine lp rfl (p_mv rfl) ?_
  refine lp rfl (p_nc rfl) ?_
  refine lp rfl (p_fab fl120_1 rfl) ?_
  refine lp rfl (p_lbs ty116 rfl (j := 0) rfl rfl) ?_
  refine lp rfl (p_mv rfl) ?_
  refine lp rfl (p_lkm (vv := SV.v) (k := a1) (z := nilS) Tryz.underlying116 (keyF9) (fun _ => by kernel_rfl) (.imp (.ro 1 rfl) (fun _ h => h.map)) rfl rfl) ?_
  refine lp rfl (p_as rfl) ?_
  refine lj_seq ?_
  refine cj_seq ?_
  refine cj_reg ?_
  refine lp rfl (p_mv rfl) ?_
  refine lp rfl (p_len Tryz.underlying117 rfl (.imp (.ro 1 rfl) (fun _ h => h.look a1))) ?_
  refine lp rfl (p_gtr rfl rfl) ?_
  refine lp rfl (p_mv rfl) ?_
  refine lcase (i := 15) (decide ((((lkM a0_1 a1).getD []).length : Int) > 0)) rfl (fun hb => ?_) (fun hb => ?_)
  · have hm := ifB_t hb hm
    refine lg true rfl rfl rfl ?_
    refine lp rfl (p_mv rfl) ?_
    refine lg true rfl rfl rfl ?_
    refine lp rfl (p_mv rfl) ?_
    refine lg true rfl rfl rfl ?_
    refine lp rfl (p_len Tryz.underlying117 rfl (.imp (.ro 1 rfl) (fun _ h => h.look a1))) ?_
    refine lg true rfl rfl rfl ?_
    refine lp rfl (p_sub rfl rfl) ?_
    refine lg true rfl rfl rfl ?_
    obtain ⟨e1, he1, hm⟩ := bindS hm
    refine lp rfl (p_idx Tryz.underlying117 ty140 rfl rfl (.imp (.ro 1 rfl) (fun _ h => h.look a1)) he1) ?_
    refine lg true rfl rfl rfl ?_
    refine lp rfl (p_fae fl140_1 rfl (.imp (.ro 1 rfl) (fun _ h => h.look a1)) (getI_spec he1).2) ?_
    refine lg true rfl rfl rfl ?_
    refine lp rfl (p_lde (o := 1) ty3 rfl rfl (.imp (.ro 1 rfl) (fun _ h => h.look a1)) (getI_spec he1).2 rfl) ?_
    refine lg true rfl rfl rfl ?_
    refine lp rfl (p_lss rfl rfl) ?_
    refine lp rfl (p_pkt rfl rfl) ?_
    refine lp rfl (p_as rfl) ?_
    refine lj_seq ?_
    obtain rfl := Option.some.inj hm
    exact cj_rt () [0] Tryz.results62 (.tmp rfl .nil) rfl rfl
  · have hm := ifB_f hb hm
    refine ls true rfl rfl rfl rfl ?_
    refine ls true rfl rfl rfl rfl ?_
    refine ls true rfl rfl rfl rfl ?_
    refine ls true rfl rfl rfl rfl ?_
    refine ls true rfl rfl rfl rfl ?_
    refine ls true rfl rfl rfl rfl ?_
    refine ls true rfl rfl rfl rfl ?_
    refine ls true rfl rfl rfl rfl ?_
    refine lp rfl (p_pkf rfl rfl) ?_
    refine lp rfl (p_as rfl) ?_
    refine lj_seq ?_
    obtain rfl := Option.some.inj hm
    exact cj_rt () [0] Tryz.results62 (.tmp rfl .nil) rfl rfl
theorem ok_club_books_isOpen (b0_ : Nat) (a0_0 : Int) (b0_1_ : Nat) (Z0_1_ : List (ByteArray × SV)) (es0_1_ : Array MapEntry) (cl0_1_ : Nat) (a0_1 : (List (ByteArray × (List Tclub_stay)))) (b0_2_ : Nat) (es0_2_ : Array MapEntry) (cl0_2_ : Nat) (a0_2 : (List (ByteArray × Int))) (b0_3_ : Nat) (es0_3_ : Array MapEntry) (cl0_3_ : Nat) (a0_3 : (List (ByteArray × Unit))) (s0_4_ : SV) (a0_4 : (List Int)) (a1 : ByteArray) {r : Bool} (hm : m_club_books_isOpen a0_0 a0_1 a0_2 a0_3 a0_4 a1 = some r) :
    Ctr Tryz.prog 110 [.pointer (some ⟨b0_, 0, none⟩), .string a1].toArray [.box b0_ 120 [.int .i64 a0_0, .map (some b0_1_), .map (some b0_2_), .map (some b0_3_), s0_4_.v]] [FamAt kv9 SV.v (rowE R140) b0_1_ a0_1 Z0_1_ none es0_1_ cl0_1_, MapAt kv9 b0_2_ (mpV vv3 a0_2) es0_2_ cl0_2_, MapAt kv9 b0_3_ (mpV vv174 a0_3) es0_3_ cl0_3_, RdS R3 (SV.v s0_4_) a0_4] (X := Unit) (fun _ => .bool r) (fun _ => [.box b0_ 120 [.int .i64 a0_0, .map (some b0_1_), .map (some b0_2_), .map (some b0_3_), s0_4_.v]]) := by
  unfold m_club_books_isOpen at hm
  refine ctr_mk (vs := [(0, .pointer (some ⟨b0_, 0, none⟩)), (1, .string a1)]) Tryz.func110 rfl Tryz.ntmps110 rfl ⟨rfl, rfl, trivial⟩ (fun w0 A => ?_)
  refine cj_seq ?_
  refine cj_reg ?_
  refine lp rfl (p_as rfl) ?_
  refine lj_seq ?_
  refine cj_seq ?_
  refine cj_reg ?_
  refine lp rfl (p_mv rfl) ?_
  refine lp rfl (p_nc rfl) ?_
  refine lp rfl (p_fab fl120_3 rfl) ?_
  refine lp rfl (p_lbs ty118 rfl (j := 0) rfl rfl) ?_
  refine lp rfl (p_mv rfl) ?_
  refine lp rfl (p_lkm (vv := vv174) (k := a1) (z := ()) Tryz.underlying118 (keyF9) (fun _ => by kernel_rfl) (.ro 3 rfl) rfl rfl) ?_
  refine lp rfl (p_as rfl) ?_
  refine lj_seq ?_
  refine cj_seq ?_
  refine cj_reg ?_
  refine lp rfl (p_mv rfl) ?_
  refine lp rfl (p_nepn Tryz.underlying174 rfl rfl) ?_
  refine lp rfl (p_mv rfl) ?_
  refine ls true rfl rfl rfl rfl ?_
  refine ls true rfl rfl rfl rfl ?_
  refine ls true rfl rfl rfl rfl ?_
  refine ls true rfl rfl rfl rfl ?_
  refine ls true rfl rfl rfl rfl ?_
  refine lp rfl (p_pkf rfl rfl) ?_
  refine lp rfl (p_as rfl) ?_
  refine lj_seq ?_
  obtain rfl := Option.some.inj hm
  exact cj_rt () [0] Tryz.results110 (.tmp rfl .nil) rfl rfl
theorem ok_club_books_permits (b0_ : Nat) (a0_0 : Int) (b0_1_ : Nat) (Z0_1_ : List (ByteArray × SV)) (es0_1_ : Array MapEntry) (cl0_1_ : Nat) (a0_1 : (List (ByteArray × (List Tclub_stay)))) (b0_2_ : Nat) (es0_2_ : Array MapEntry) (cl0_2_ : Nat) (a0_2 : (List (ByteArray × Int))) (b0_3_ : Nat) (es0_3_ : Array MapEntry) (cl0_3_ : Nat) (a0_3 : (List (ByteArray × Unit))) (s0_4_ : SV) (a0_4 : (List Int)) (a1 : TAct) {r : Bool} (hm : m_club_books_permits a0_0 a0_1 a0_2 a0_3 a0_4 a1 = some r) :
    Ctr Tryz.prog 77 [.pointer (some ⟨b0_, 0, none⟩), .agg (R72.enc a1).toArray].toArray [.box b0_ 120 [.int .i64 a0_0, .map (some b0_1_), .map (some b0_2_), .map (some b0_3_), s0_4_.v]] [FamAt kv9 SV.v (rowE R140) b0_1_ a0_1 Z0_1_ none es0_1_ cl0_1_, MapAt kv9 b0_2_ (mpV vv3 a0_2) es0_2_ cl0_2_, MapAt kv9 b0_3_ (mpV vv174 a0_3) es0_3_ cl0_3_, RdS R3 (SV.v s0_4_) a0_4] (X := Unit) (fun _ => .bool r) (fun _ => [.box b0_ 120 [.int .i64 a0_0, .map (some b0_1_), .map (some b0_2_), .map (some b0_3_), s0_4_.v]]) := by
  unfold m_club_books_permits at hm
  refine ctr_mk (vs := [(0, .pointer (some ⟨b0_, 0, none⟩)), (1, .agg (R72.enc a1).toArray)]) Tryz.func77 rfl Tryz.ntmps77 rfl ⟨rfl, rfl, trivial⟩ (fun w0 A => ?_)
  refine cj_seq ?_
  refine cj_reg ?_
  refine r_bx (cs := [.string a1.Site, .int .i64 a1.No, .int .i64 a1.At, .int .i64 a1.Kind, .string a1.Who, .string a1.Motion, .int .i64 a1.Cents, .bool a1.Yes, .string a1.Of, .int .i64 a1.Other]) rfl rfl rfl (fun b1 => ?_)
  refine lp rfl (p_as rfl) ?_
  refine lj_seq ?_
  refine cj_seq ?_
  refine cj_seq ?_
  refine cj_reg ?_
  refine lp rfl (p_fab fl72_3 rfl) ?_
  refine lp rfl (p_lbs ty3 rfl (j := 0) rfl rfl) ?_
  refine lj_seq ?_
  refine cj_blk ?_
  refine cj_seq ?_
  refine cj_reg ?_
  refine lp rfl (p_eql rfl rfl) ?_
  refine lp rfl (p_as rfl) ?_
  refine lj_seq ?_
  refine cj_if (b := a1.Kind == 1) rfl (fun hb => ?_) (fun hb => ?_)
  · have hm := ifB_t hb hm
    refine cj_seq ?_
    refine cj_reg ?_
    refine lp rfl (p_mv rfl) ?_
    refine lp rfl (p_fab fl72_4 rfl) ?_
    refine lp rfl (p_lbs ty9 rfl (j := 0) rfl rfl) ?_
    obtain ⟨y2, hy2, hm⟩ := bindS hm
    refine r_call [1] cf62 rfl rfl (ok_club_books_isMember b0_ a0_0 b0_1_ Z0_1_ es0_1_ cl0_1_ a0_1 b0_2_ es0_2_ cl0_2_ a0_2 b0_3_ es0_3_ cl0_3_ a0_3 s0_4_ a0_4 a1.Who hy2) rfl rfl (.cons (.ro 1 rfl) (.cons (.ro 2 rfl) (.cons (.ro 3 rfl) (.cons (.ro 4 rfl) .nil)))) (fun _ => rfl) rfl (fun _ => ?_)
    refine lp rfl (p_not rfl) ?_
    refine lp rfl (p_as rfl) ?_
    refine lj_seq ?_
    obtain rfl := Option.some.inj hm
    exact cj_rt () [0] Tryz.results77 (.tmp rfl .nil) rfl rfl
  · have hm := ifB_f hb hm
    refine cj_seq ?_
    refine cj_reg ?_
    refine lp rfl (p_eql rfl rfl) ?_
    refine lp rfl (p_as rfl) ?_
    refine lj_seq ?_
    refine cj_if (b := a1.Kind == 2) rfl (fun hb => ?_) (fun hb => ?_)
    · have hm := ifB_t hb hm
      refine cj_seq ?_
      refine cj_reg ?_
      refine lp rfl (p_mv rfl) ?_
      refine lp rfl (p_fab fl72_4 rfl) ?_
      refine lp rfl (p_lbs ty9 rfl (j := 0) rfl rfl) ?_
      obtain ⟨y3, hy3, hm⟩ := bindS hm
      refine r_call [1] cf62 rfl rfl (ok_club_books_isMember b0_ a0_0 b0_1_ Z0_1_ es0_1_ cl0_1_ a0_1 b0_2_ es0_2_ cl0_2_ a0_2 b0_3_ es0_3_ cl0_3_ a0_3 s0_4_ a0_4 a1.Who hy3) rfl rfl (.cons (.ro 1 rfl) (.cons (.ro 2 rfl) (.cons (.ro 3 rfl) (.cons (.ro 4 rfl) .nil)))) (fun _ => rfl) rfl (fun _ => ?_)
      refine lp rfl (p_as rfl) ?_
      refine lj_seq ?_
      obtain rfl := Option.some.inj hm
      exact cj_rt () [0] Tryz.results77 (.tmp rfl .nil) rfl rfl
    · have hm := ifB_f hb hm
      refine cj_seq ?_
      refine cj_reg ?_
      refine lp rfl (p_eql rfl rfl) ?_
      refine lp rfl (p_as rfl) ?_
      refine lj_seq ?_
      refine cj_if (b := a1.Kind == 4) rfl (fun hb => ?_) (fun hb => ?_)
      · have hm := ifB_t hb hm
        refine cj_seq ?_
        refine cj_quiet (by kernel_rfl) (by kernel_rfl) ?_
        refine q_p rfl (p_mv rfl) ?_
        refine q_p rfl (p_nc rfl) ?_
        refine q_p rfl (p_fab fl120_3 rfl) ?_
        refine q_p rfl (p_lbs ty118 rfl (j := 1) rfl rfl) ?_
        refine q_p rfl (p_fab fl72_5 rfl) ?_
        refine q_p rfl (p_lbs ty9 rfl (j := 0) rfl rfl) ?_
        refine q_p rfl (p_lkm (vv := vv174) (k := a1.Motion) (z := ()) Tryz.underlying118 (keyF9) (fun _ => by kernel_rfl) (.ro 4 rfl) rfl rfl) ?_
        refine q_p rfl (p_eqpn Tryz.underlying174 rfl rfl) ?_
        refine q_p rfl (p_as rfl) ?_
        refine q_nil ?_
        refine nj_seq ?_
        obtain rfl := Option.some.inj hm
        exact cj_rt () [1] Tryz.results77 (.tmp rfl .nil) rfl rfl
      · have hm := ifB_f hb hm
        refine cj_seq ?_
        refine cj_reg ?_
        refine lp rfl (p_eql rfl rfl) ?_
        refine lp rfl (p_as rfl) ?_
        refine lj_seq ?_
        refine cj_if (b := a1.Kind == 5) rfl (fun hb => ?_) (fun hb => ?_)
        · have hm := ifB_t hb hm
          refine cj_seq ?_
          refine cj_reg ?_
          refine lp rfl (p_mv rfl) ?_
          refine lp rfl (p_fab fl72_4 rfl) ?_
          refine lp rfl (p_lbs ty9 rfl (j := 0) rfl rfl) ?_
          obtain ⟨y4, hy4, hm⟩ := bindS hm
          refine r_call [1] cf62 rfl rfl (ok_club_books_isMember b0_ a0_0 b0_1_ Z0_1_ es0_1_ cl0_1_ a0_1 b0_2_ es0_2_ cl0_2_ a0_2 b0_3_ es0_3_ cl0_3_ a0_3 s0_4_ a0_4 a1.Who hy4) rfl rfl (.cons (.ro 1 rfl) (.cons (.ro 2 rfl) (.cons (.ro 3 rfl) (.cons (.ro 4 rfl) .nil)))) (fun _ => rfl) rfl (fun _ => ?_)
          refine lp rfl (p_mv rfl) ?_
          refine lcase (i := 36) y4 rfl (fun hb => ?_) (fun hb => ?_)
          · have hm := ifB_t hb hm
            refine lg true rfl rfl rfl ?_
            refine lp rfl (p_mv rfl) ?_
            refine lg true rfl rfl rfl ?_
            refine lp rfl (p_fab fl72_5 rfl) ?_
            refine lg true rfl rfl rfl ?_
            refine lp rfl (p_lbs ty9 rfl (j := 1) rfl rfl) ?_
            refine lg true rfl rfl rfl ?_
            obtain ⟨y5, hy5, hm⟩ := bindS hm
            refine r_call [0] cf110 rfl rfl (ok_club_books_isOpen b0_ a0_0 b0_1_ Z0_1_ es0_1_ cl0_1_ a0_1 b0_2_ es0_2_ cl0_2_ a0_2 b0_3_ es0_3_ cl0_3_ a0_3 s0_4_ a0_4 a1.Motion hy5) rfl rfl (.cons (.ro 1 rfl) (.cons (.ro 2 rfl) (.cons (.ro 3 rfl) (.cons (.ro 4 rfl) .nil)))) (fun _ => rfl) rfl (fun _ => ?_)
            refine lp rfl (p_pkt rfl rfl) ?_
            refine lp rfl (p_as rfl) ?_
            refine lj_seq ?_
            obtain rfl := Option.some.inj hm
            exact cj_rt () [0] Tryz.results77 (.tmp rfl .nil) rfl rfl
          · have hm := ifB_f hb hm
            refine ls true rfl rfl rfl rfl ?_
            refine ls true rfl rfl rfl rfl ?_
            refine ls true rfl rfl rfl rfl ?_
            refine ls true rfl rfl rfl rfl ?_
            refine lp rfl (p_pkf rfl rfl) ?_
            refine lp rfl (p_as rfl) ?_
            refine lj_seq ?_
            obtain rfl := Option.some.inj hm
            exact cj_rt () [0] Tryz.results77 (.tmp rfl .nil) rfl rfl
        · have hm := ifB_f hb hm
          refine cj_seq ?_
          refine cj_reg ?_
          refine lp rfl (p_eql rfl rfl) ?_
          refine lp rfl (p_as rfl) ?_
          refine lj_seq ?_
          refine cj_if (b := a1.Kind == 6) rfl (fun hb => ?_) (fun hb => ?_)
          · have hm := ifB_t hb hm
            refine cj_seq ?_
            refine cj_reg ?_
            refine lp rfl (p_mv rfl) ?_
            refine lp rfl (p_fab fl72_5 rfl) ?_
            refine lp rfl (p_lbs ty9 rfl (j := 0) rfl rfl) ?_
            obtain ⟨y6, hy6, hm⟩ := bindS hm
            refine r_call [1] cf110 rfl rfl (ok_club_books_isOpen b0_ a0_0 b0_1_ Z0_1_ es0_1_ cl0_1_ a0_1 b0_2_ es0_2_ cl0_2_ a0_2 b0_3_ es0_3_ cl0_3_ a0_3 s0_4_ a0_4 a1.Motion hy6) rfl rfl (.cons (.ro 1 rfl) (.cons (.ro 2 rfl) (.cons (.ro 3 rfl) (.cons (.ro 4 rfl) .nil)))) (fun _ => rfl) rfl (fun _ => ?_)
            refine lp rfl (p_as rfl) ?_
            refine lj_seq ?_
            obtain rfl := Option.some.inj hm
            exact cj_rt () [0] Tryz.results77 (.tmp rfl .nil) rfl rfl
          · have hm := ifB_f hb hm
            refine cj_skip ?_
            refine nj_blk ?_
            refine nj_seq ?_
            refine cj_seq ?_
            refine cj_reg ?_
            refine lp rfl (p_as rfl) ?_
            refine lj_seq ?_
            obtain rfl := Option.some.inj hm
            exact cj_rt () [1] Tryz.results77 (.tmp rfl .nil) rfl rfl
theorem ok_maps_Keys_map_string_club_stay_string_club_stay (m : Nat) : Ctr Tryz.prog 61 [.map (some m)].toArray ([] : List Ent) [] (X := Nat) (fun b => .func (.func 79) #[] [.pointer (some ⟨b, 0, none⟩)].toArray) (fun b => [.box b 116 [.map (some m)]]) := by
  refine ctr_mk (vs := [(0, .map (some m))]) Tryz.func61 rfl Tryz.ntmps61 rfl ⟨rfl, trivial⟩ (fun w0 A => ?_)
  refine cj_seq ?_
  refine cj_reg ?_
  refine r_bx (cs := [.map (some m)]) rfl rfl rfl (fun b => ?_)
  refine lp rfl (p_as rfl) ?_
  refine lj_seq ?_
  refine cj_seq ?_
  refine cj_reg ?_
  refine lp rfl (p_fn (cv := [.pointer (some ⟨b, 0, none⟩)]) rfl) ?_
  refine lp rfl (p_as rfl) ?_
  refine lj_seq ?_
  exact cj_rt b [0] Tryz.results61 (.tmp rfl .nil) rfl rfl
theorem ok_slices_Sorted_string__maps_Keys_map_string_club_stay_string_club_stay_1_A (bx mb : Nat) (mes : Array MapEntry) (mcl : Nat) (L : List (ByteArray × SV)) (hl : L.length ≤ 1000000000) :
    Ctr Tryz.prog 72 [SV.v nilS, .func (.func 79) #[] [.pointer (some ⟨bx, 0, none⟩)].toArray].toArray [.row R9 (SV.v nilS) []] [BoxS bx 116 [.map (some mb)], MapAt kv9 mb (mpV SV.v L) mes mcl] (X := SV × {q : List ByteArray // q.Perm (L.map Prod.fst)}) (fun s => s.1.v) (fun s => [.row R9 (SV.v s.1) s.2.1]) := by
  refine ctr_mkM (vs := [(0, SV.v nilS), (1, .func (.func 79) #[] [.pointer (some ⟨bx, 0, none⟩)].toArray)]) Tryz.func72 rfl Tryz.ntmps72 rfl ⟨rfl, rfl, trivial⟩ (fun w0 A => ?_)
  refine cj_seq ?_
  refine cj_reg ?_
  refine r_bx (cs := [SV.v nilS]) rfl rfl rfl (fun b1 => ?_)
  refine lp rfl (p_as rfl) ?_
  refine lj_seq ?_
  refine cj_seq ?_
  refine cj_seq ?_
  refine cj_reg ?_
  refine lp rfl (p_mv rfl) ?_
  refine lj_seq ?_
  refine cj_keys (γ := SV) (fn := Tryz.f79) (vv := SV.v) (ρ := List ByteArray) Tryz.func79 rfl rfl rfl Tryz.underlying116 ty116 cf79 rfl rfl (by kernel_rfl) (by kernel_rfl) (appStep_all (by_ := 16) (by decide) (by rw [List.length_map]; omega)) (fun u g => [.box b1 42 [g.v], .ro (BoxS bx 116 [.map (some mb)]), .ro (MapAt kv9 mb (mpV SV.v L) mes mcl), .row R9 (SV.v g) u]) nilS (fun _ h => h.picks [0, 1, 1, 0] rfl) (fun _ _ => (.ro 1 rfl)) (fun _ _ => (.ro 2 rfl)) (fun u g D aft => ?_) (fun i x u g k hs o1 o2 o3 oi I I0 hend hmid => ?_)
  · refine nj_seq ?_
    refine cj_seq ?_
    refine cj_reg ?_
    refine lp rfl (p_lbs ty42 rfl (j := 1) rfl rfl) ?_
    refine lp rfl (p_as rfl) ?_
    refine lj_seq ?_
    exact cj_rtM 0 (g, ⟨u, KfP_brk aft⟩) [4] Tryz.results72 rfl (.tmp rfl .nil) rfl rfl
  · have hm := hs
    refine cj_reg ?_
    refine lp rfl (p_as rfl) ?_
    refine lj_nil ?_
    refine hmid _ _ [.obj oi, .box b1 42 [g.v], .ro (BoxS bx 116 [.map (some mb)]), .ro (MapAt kv9 mb (mpV SV.v L) mes mcl), .row R9 (SV.v g) u] (fun _ h => h.picks [0, 0, 0, 0, 0, 0, 0] rfl) ?_
    refine cj_blk ?_
    refine cj_reg ?_
    refine lp rfl (p_lbs ty42 rfl (j := 3) rfl rfl) ?_
    refine lp rfl (p_mv rfl) ?_
    refine r_bs R9 [x] rfl rfl rfl (fun _ => by kernel_rfl) rfl (fun s13 => ?_)
    obtain ⟨q, hq, hm⟩ := bindS hm
    refine r_app (k := 7) Tryz.underlying42 ty9 rfl rfl rfl rfl (.row 0 rfl) hq rfl (fun s15 => ?_)
    refine r_sb (vs := [s15.v]) (j := 4) ty42 rfl rfl rfl rfl rfl rfl rfl ?_
    refine lj_nil ?_
    refine nj_blk ?_
    exact hend _ _ q s15 (Option.some.inj hm).symm (fun _ h => h.picks [1, 1, 1, 1, 1, 1, 1] rfl)
theorem ok_slices_Sorted_string__maps_Keys_map_string_club_stay_string_club_stay_1_C (bx mb : Nat) (mes : Array MapEntry) (mcl : Nat) (L : List (ByteArray × SV)) (hl : L.length ≤ 1000000000) :
    Ctr Tryz.prog 56 [.func (.func 79) #[] [.pointer (some ⟨bx, 0, none⟩)].toArray].toArray ([] : List Ent) [BoxS bx 116 [.map (some mb)], MapAt kv9 mb (mpV SV.v L) mes mcl] (X := SV × {q : List ByteArray // q.Perm (L.map Prod.fst)}) (fun s => s.1.v) (fun s => [.row R9 (SV.v s.1) s.2.1]) := by
  refine ctr_mk (vs := [(0, .func (.func 79) #[] [.pointer (some ⟨bx, 0, none⟩)].toArray)]) Tryz.func56 rfl Tryz.ntmps56 rfl ⟨rfl, trivial⟩ (fun w0 A => ?_)
  refine cj_seq ?_
  refine cj_reg ?_
  refine lp rfl (p_as rfl) ?_
  refine lj_seq ?_
  refine cj_seq ?_
  refine cj_reg ?_
  refine lp rfl (p_mv rfl) ?_
  refine r_nil R9 ?_
  refine r_call [0] cf72 rfl rfl (ok_slices_Sorted_string__maps_Keys_map_string_club_stay_string_club_stay_1_A bx mb mes mcl L hl) rfl rfl (.cons (.ro 0 rfl) (.cons (.ro 1 rfl) .nil)) (fun _ => rfl) rfl (fun s3 => ?_)
  refine lp rfl (p_as rfl) ?_
  refine lj_seq ?_
  exact cj_rt s3 [0] Tryz.results56 (.tmp rfl .nil) rfl rfl
theorem ok_slices_Sorted_string__maps_Keys_map_string_club_stay_string_club_stay_1 (bx mb : Nat) (Z : List (ByteArray × (SV))) (mes : Array MapEntry) (mcl : Nat) (L : List (ByteArray × (List Tclub_stay))) {r : List ByteArray} (hm : m_slices_Sorted_string__maps_Keys_map_string_club_stay_string_club_stay_1 L = some r) :
    Ctr Tryz.prog 38 [.func (.func 79) #[] [.pointer (some ⟨bx, 0, none⟩)].toArray].toArray ([] : List Ent) [BoxS bx 116 [.map (some mb)], FamAt kv9 SV.v (rowE R140) mb L Z none mes mcl] (X := SV) (fun s => s.v) (fun s => [.row R9 (SV.v s) r]) := by
  unfold m_slices_Sorted_string__maps_Keys_map_string_club_stay_string_club_stay_1 at hm
  split at hm
  case isFalse => cases hm
  rename_i hl
  refine ctr_mk (vs := [(0, .func (.func 79) #[] [.pointer (some ⟨bx, 0, none⟩)].toArray)]) Tryz.func38 rfl Tryz.ntmps38 rfl ⟨rfl, trivial⟩ (fun w0 A => ?_)
  refine cj_pure (F := FamAt kv9 SV.v (rowE R140) mb L Z none mes mcl) (.ro 1 rfl) (fun _ h => h.kys) (fun hky => ?_)
  rw [hky] at hm
  have hl : Z.length ≤ 1000000000 := by have := congrArg List.length hky; simp at this; omega
  refine cj_seq ?_
  refine cj_reg ?_
  refine lp rfl (p_as rfl) ?_
  refine lj_seq ?_
  refine cj_seq ?_
  refine cj_reg ?_
  refine lp rfl (p_mv rfl) ?_
  refine r_call [] cf56 rfl rfl (ok_slices_Sorted_string__maps_Keys_map_string_club_stay_string_club_stay_1_C bx mb mes mcl Z hl) rfl rfl (.cons (.ro 0 rfl) (.cons (.imp (.ro 1 rfl) (fun _ h => h.map)) .nil)) (fun _ => rfl) rfl (fun s2 => ?_)
  obtain ⟨s2, q, hq⟩ := s2
  have hm := (m_Sort_perm hq).trans hm
  refine lp rfl (p_as rfl) ?_
  refine lj_seq ?_
  refine cj_seq ?_
  refine cj_reg ?_
  refine lp rfl (p_mv rfl) ?_
  refine r_call [0] cf57 rfl rfl (ok_slices_Sort_string_string s2 q hm) rfl rfl .nil (fun _ => rfl) rfl (fun _ => ?_)
  refine lj_seq ?_
  refine cj_seq ?_
  refine cj_reg ?_
  refine lp rfl (p_mv rfl) ?_
  refine lp rfl (p_as rfl) ?_
  refine lj_seq ?_
  exact cj_rt s2 [0] Tryz.results38 (.tmp rfl .nil) rfl rfl
theorem ok_club_books_members (b0_ : Nat) (a0_0 : Int) (b0_1_ : Nat) (Z0_1_ : List (ByteArray × SV)) (es0_1_ : Array MapEntry) (cl0_1_ : Nat) (a0_1 : (List (ByteArray × (List Tclub_stay)))) (b0_2_ : Nat) (es0_2_ : Array MapEntry) (cl0_2_ : Nat) (a0_2 : (List (ByteArray × Int))) (b0_3_ : Nat) (es0_3_ : Array MapEntry) (cl0_3_ : Nat) (a0_3 : (List (ByteArray × Unit))) (s0_4_ : SV) (a0_4 : (List Int)) {r : (List ByteArray)} (hm : m_club_books_members a0_0 a0_1 a0_2 a0_3 a0_4 = some r) :
    Ctr Tryz.prog 41 [.pointer (some ⟨b0_, 0, none⟩)].toArray [.box b0_ 120 [.int .i64 a0_0, .map (some b0_1_), .map (some b0_2_), .map (some b0_3_), s0_4_.v]] [FamAt kv9 SV.v (rowE R140) b0_1_ a0_1 Z0_1_ none es0_1_ cl0_1_, MapAt kv9 b0_2_ (mpV vv3 a0_2) es0_2_ cl0_2_, MapAt kv9 b0_3_ (mpV vv174 a0_3) es0_3_ cl0_3_, RdS R3 (SV.v s0_4_) a0_4] (X := SV) (fun s => s.v) (fun s => [.row R9 (SV.v s) r, .box b0_ 120 [.int .i64 a0_0, .map (some b0_1_), .map (some b0_2_), .map (some b0_3_), s0_4_.v]]) := by
  unfold m_club_books_members at hm
  refine ctr_mk (vs := [(0, .pointer (some ⟨b0_, 0, none⟩))]) Tryz.func41 rfl Tryz.ntmps41 rfl ⟨rfl, trivial⟩ (fun w0 A => ?_)
  refine cj_seq ?_
  refine cj_reg ?_
  refine lp rfl (p_as rfl) ?_
  refine lj_seq ?_
  refine cj_seq ?_
  refine cj_reg ?_
  refine lp rfl (p_as rfl) ?_
  refine lj_seq ?_
  refine cj_seq ?_
  refine cj_seq ?_
  refine cj_reg ?_
  refine lp rfl (p_mv rfl) ?_
  refine lp rfl (p_nc rfl) ?_
  refine lp rfl (p_fab fl120_1 rfl) ?_
  refine lp rfl (p_lbs ty116 rfl (j := 0) rfl rfl) ?_
  refine r_call [] cf61 rfl rfl (ok_maps_Keys_map_string_club_stay_string_club_stay b0_1_) rfl rfl .nil (fun _ => rfl) rfl (fun b1 => ?_)
  refine r_fzb 0 rfl ?_
  obtain ⟨y2, hy2, hm⟩ := bindS hm
  refine r_call [] cf38 rfl rfl (ok_slices_Sorted_string__maps_Keys_map_string_club_stay_string_club_stay_1 b1 b0_1_ Z0_1_ es0_1_ cl0_1_ a0_1 hy2) rfl rfl (.cons (.ro 0 rfl) (.cons (.ro 2 rfl) .nil)) (fun _ => rfl) rfl (fun s3 => ?_)
  refine lp rfl (p_len Tryz.underlying42 rfl (.row 0 rfl)) ?_
  refine lp rfl (p_mv rfl) ?_
  refine lj_seq ?_
  refine cj_nil R9 ?_
  obtain ⟨f11, hf11, hm⟩ := bindS hm
  refine cj_range (γ := SV) (m := (y2.length : Int)) hf11 nilS (fun u8 g9 => [(0, .pointer (some ⟨b0_, 0, none⟩)), (2, .slice none 0 0), (3, g9.v), (11, s3.v)]) (fun u8 g9 => Sat w0 (keys [.box b0_ 120 [.int .i64 a0_0, .map (some b0_1_), .map (some b0_2_), .map (some b0_3_), s0_4_.v]]) A [.row R9 (SV.v s3) y2, .box b0_ 120 [.int .i64 a0_0, .map (some b0_1_), .map (some b0_2_), .map (some b0_3_), s0_4_.v], .ro (FamAt kv9 SV.v (rowE R140) b0_1_ a0_1 Z0_1_ none es0_1_ cl0_1_), .ro (MapAt kv9 b0_2_ (mpV vv3 a0_2) es0_2_ cl0_2_), .ro (MapAt kv9 b0_3_ (mpV vv174 a0_3) es0_3_ cl0_3_), .ro (RdS R3 (SV.v s0_4_) a0_4), .row R9 (SV.v g9) u8]) ⟨rfl, rfl, rfl, rfl, rfl, rfl, trivial⟩ (fun _ h => h.picks [1, 2, 2, 2, 2, 2, 0] rfl) (nat_lt _) (fun _ h => (FactAt.get (F := RdS R9 (SV.v s3) y2) (.row 1 rfl) h).1) (fun _ _ => ⟨rfl, rfl, rfl, rfl⟩) ⟨rfl, rfl, rfl, rfl, rfl⟩ rfl rfl rfl (fun u8 g9 e => ?_) (fun aftk10 i4 x5 u8 g9 k10 hx6 hs J hJk10 hBk10 hX I cnk10 => ?_)
  · have hm := Flow.fin_b e hm
    refine nj_seq ?_
    refine cj_seq ?_
    refine cj_reg ?_
    refine lp rfl (p_mv rfl) ?_
    refine lp rfl (p_as rfl) ?_
    refine lj_seq ?_
    obtain rfl := Option.some.inj hm
    exact cj_rt g9 [6, 1] Tryz.results41 (.tmp rfl .nil) rfl rfl
  · have hRk10 : ∀ t, k10 = .ret t → some t = some r := fun t e => by rw [hX t e] at hm; exact hm
    have hm := hs
    refine cj_seq ?_
    refine cj_reg ?_
    refine lp rfl (p_idx Tryz.underlying42 ty9 rfl rfl (.row 0 rfl) (getI_nat.trans hx6)) ?_
    refine lp rfl (p_lde (o := 0) ty9 rfl rfl (.row 0 rfl) hx6 rfl) ?_
    refine lp rfl (p_as rfl) ?_
    refine lj_seq ?_
    refine cj_seq ?_
    refine cj_reg ?_
    refine lp rfl (p_mv rfl) ?_
    refine lp rfl (p_mv rfl) ?_
    obtain ⟨y13, hy13, hm⟩ := bindS hm
    refine r_call [1] cf62 rfl rfl (ok_club_books_isMember b0_ a0_0 b0_1_ Z0_1_ es0_1_ cl0_1_ a0_1 b0_2_ es0_2_ cl0_2_ a0_2 b0_3_ es0_3_ cl0_3_ a0_3 s0_4_ a0_4 x5 hy13) rfl rfl (.cons (.ro 1 rfl) (.cons (.ro 2 rfl) (.cons (.ro 3 rfl) (.cons (.ro 4 rfl) .nil)))) (fun _ => rfl) rfl (fun _ => ?_)
    refine lj_seq ?_
    refine cj_if (b := y13) rfl (fun hb => ?_) (fun hb => ?_)
    · have hm := ifB_t hb hm
      refine cj_reg ?_
      refine lp rfl (p_mv rfl) ?_
      refine lp rfl (p_mv rfl) ?_
      refine r_bs R9 [x5] rfl rfl rfl (fun _ => by kernel_rfl) rfl (fun s14 => ?_)
      obtain ⟨q15, hq15, hm⟩ := bindS hm
      refine r_app (k := 7) Tryz.underlying42 ty9 rfl rfl rfl rfl (.row 0 rfl) hq15 rfl (fun s16 => ?_)
      refine lp rfl (p_as rfl) ?_
      refine lj_nil ?_
      refine nj_blk ?_
      exact cnk10 _ _ q15 s16 (hJk10 _ (Option.some.inj hm).symm) ⟨rfl, rfl, rfl, rfl, rfl, rfl, trivial⟩ (fun _ h => h.picks [2, 1, 1, 1, 1, 1, 1] rfl)
    · have hm := ifB_f hb hm
      refine cj_skip ?_
      refine nj_blk ?_
      exact cnk10 _ _ u8 g9 (hJk10 _ (Option.some.inj hm).symm) ⟨rfl, rfl, rfl, rfl, rfl, rfl, trivial⟩ (fun _ h => h.picks [1, 0, 0, 0, 0, 0, 0] rfl)
theorem ok_club_books_act (b0_ : Nat) (a0_0 : Int) (b0_1_ : Nat) (Z0_1_ : List (ByteArray × SV)) (es0_1_ : Array MapEntry) (cl0_1_ : Nat) (a0_1 : (List (ByteArray × (List Tclub_stay)))) (b0_2_ : Nat) (es0_2_ : Array MapEntry) (cl0_2_ : Nat) (a0_2 : (List (ByteArray × Int))) (b0_3_ : Nat) (es0_3_ : Array MapEntry) (cl0_3_ : Nat) (a0_3 : (List (ByteArray × Unit))) (s0_4_ : SV) (a0_4 : (List Int)) (a1 : TAct) {r : (List (ByteArray × (List Tclub_stay))) × (List (ByteArray × Int))} (hm : m_club_books_act a0_0 a0_1 a0_2 a0_3 a0_4 a1 = some r) :
    Ctr Tryz.prog 78 [.pointer (some ⟨b0_, 0, none⟩), .agg (R72.enc a1).toArray].toArray [.box b0_ 120 [.int .i64 a0_0, .map (some b0_1_), .map (some b0_2_), .map (some b0_3_), s0_4_.v], .obj (famO kv9 SV.v (rowE R140) b0_1_ a0_1 Z0_1_ none es0_1_ cl0_1_), .obj (mapO kv9 b0_2_ (mpV vv3 a0_2) es0_2_ cl0_2_), .obj (mapO kv9 b0_3_ (mpV vv174 a0_3) es0_3_ cl0_3_)] [RdS R3 (SV.v s0_4_) a0_4] (X := (List (ByteArray × SV) × Array MapEntry × Nat × Array MapEntry × Nat)) (fun s => .tuple [].toArray) (fun s => [.box b0_ 120 [.int .i64 a0_0, .map (some b0_1_), .map (some b0_2_), .map (some b0_3_), s0_4_.v], .obj (famO kv9 SV.v (rowE R140) b0_1_ r.1 s.1 none s.2.1 s.2.2.1), .obj (mapO kv9 b0_2_ (mpV vv3 r.2) s.2.2.2.1 s.2.2.2.2), .obj (mapO kv9 b0_3_ (mpV vv174 a0_3) es0_3_ cl0_3_)]) := by
  unfold m_club_books_act at hm
  refine ctr_mk (vs := [(0, .pointer (some ⟨b0_, 0, none⟩)), (1, .agg (R72.enc a1).toArray)]) Tryz.func78 rfl Tryz.ntmps78 rfl ⟨rfl, rfl, trivial⟩ (fun w0 A => ?_)
  refine cj_seq ?_
  refine cj_reg ?_
  refine r_bx (cs := [.string a1.Site, .int .i64 a1.No, .int .i64 a1.At, .int .i64 a1.Kind, .string a1.Who, .string a1.Motion, .int .i64 a1.Cents, .bool a1.Yes, .string a1.Of, .int .i64 a1.Other]) rfl rfl rfl (fun b1 => ?_)
  refine lj_seq ?_
  refine cj_seq ?_
  refine cj_reg ?_
  refine lp rfl (p_fab fl72_3 rfl) ?_
  refine lp rfl (p_lbs ty3 rfl (j := 0) rfl rfl) ?_
  refine lj_seq ?_
  refine cj_blk ?_
  refine cj_seq ?_
  refine cj_reg ?_
  refine lp rfl (p_eql rfl rfl) ?_
  refine lp rfl (p_as rfl) ?_
  refine lj_seq ?_
  refine cj_if (b := a1.Kind == 1) rfl (fun hb => ?_) (fun hb => ?_)
  · have hm := ifB_t hb hm
    obtain ⟨q4, hq4, hm⟩ := bindS hm
    refine cj_anyT [0, 1, 2, 3, 4, 5, 6, 7, 8, 9, 10, 11, 12, 13, 14, 15, 16, 17] [19, 20] (Sat w0 (keys [.box b0_ 120 [.int .i64 a0_0, .map (some b0_1_), .map (some b0_2_), .map (some b0_3_), s0_4_.v], .obj (famO kv9 SV.v (rowE R140) b0_1_ a0_1 Z0_1_ none es0_1_ cl0_1_), .obj (mapO kv9 b0_2_ (mpV vv3 a0_2) es0_2_ cl0_2_), .obj (mapO kv9 b0_3_ (mpV vv174 a0_3) es0_3_ cl0_3_)]) A [.box b1 72 [.string a1.Site, .int .i64 a1.No, .int .i64 a1.At, .int .i64 a1.Kind, .string a1.Who, .string a1.Motion, .int .i64 a1.Cents, .bool a1.Yes, .string a1.Of, .int .i64 a1.Other], .box b0_ 120 [.int .i64 a0_0, .map (some b0_1_), .map (some b0_2_), .map (some b0_3_), s0_4_.v], .obj (famO kv9 SV.v (rowE R140) b0_1_ a0_1 Z0_1_ none es0_1_ cl0_1_), .obj (mapO kv9 b0_2_ (mpV vv3 a0_2) es0_2_ cl0_2_), .obj (mapO kv9 b0_3_ (mpV vv174 a0_3) es0_3_ cl0_3_), .ro (RdS R3 (SV.v s0_4_) a0_4)]) (Sat w0 (keys [.box b0_ 120 [.int .i64 a0_0, .map (some b0_1_), .map (some b0_2_), .map (some b0_3_), s0_4_.v], .obj (famO kv9 SV.v (rowE R140) b0_1_ a0_1 Z0_1_ none es0_1_ cl0_1_), .obj (mapO kv9 b0_2_ (mpV vv3 a0_2) es0_2_ cl0_2_), .obj (mapO kv9 b0_3_ (mpV vv174 a0_3) es0_3_ cl0_3_)]) A [.box b1 72 [.string a1.Site, .int .i64 a1.No, .int .i64 a1.At, .int .i64 a1.Kind, .string a1.Who, .string a1.Motion, .int .i64 a1.Cents, .bool a1.Yes, .string a1.Of, .int .i64 a1.Other], .box b0_ 120 [.int .i64 a0_0, .map (some b0_1_), .map (some b0_2_), .map (some b0_3_), s0_4_.v], .obj (mapO kv9 b0_2_ (mpV vv3 a0_2) es0_2_ cl0_2_), .obj (mapO kv9 b0_3_ (mpV vv174 a0_3) es0_3_ cl0_3_), .ro (RdS R3 (SV.v s0_4_) a0_4)]) (by kernel_rfl) ?_
    refine at_take2 0 rfl (by kernel_rfl) (by kernel_rfl) (by kernel_rfl) (fun _ h => h.picks [0, 0, 1, 1, 1] rfl) rfl rfl (p_mv rfl) (fun _ h => h.picks [0, 0, 1, 1, 1] rfl) ?_
    refine at_take2 1 rfl (by kernel_rfl) (by kernel_rfl) (by kernel_rfl) (fun _ h => h.picks [0, 0, 1, 1, 1] rfl) rfl rfl (p_nc rfl) (fun _ h => h.picks [0, 0, 1, 1, 1] rfl) ?_
    refine at_take2 2 rfl (by kernel_rfl) (by kernel_rfl) (by kernel_rfl) (fun _ h => h.picks [0, 0, 1, 1, 1] rfl) rfl rfl (p_fab fl120_1 rfl) (fun _ h => h.picks [0, 0, 1, 1, 1] rfl) ?_
    refine at_take2 3 rfl (by kernel_rfl) (by kernel_rfl) (by kernel_rfl) (fun _ h => h.picks [0, 0, 1, 1, 1] rfl) rfl rfl (p_lbs ty116 rfl (j := 1) rfl rfl) (fun _ h => h.picks [0, 0, 1, 1, 1] rfl) ?_
    refine at_take2 4 rfl (by kernel_rfl) (by kernel_rfl) (by kernel_rfl) (fun _ h => h.picks [0, 0, 1, 1, 1] rfl) rfl rfl (p_fab fl72_4 rfl) (fun _ h => h.picks [0, 0, 1, 1, 1] rfl) ?_
    refine at_take2 5 rfl (by kernel_rfl) (by kernel_rfl) (by kernel_rfl) (fun _ h => h.picks [0, 0, 1, 1, 1] rfl) rfl rfl (p_lbs ty9 rfl (j := 0) rfl rfl) (fun _ h => h.picks [0, 0, 1, 1, 1] rfl) ?_
    refine at_take2 6 rfl (by kernel_rfl) (by kernel_rfl) (by kernel_rfl) (fun _ h => h.picks [0, 0, 1, 1, 1] rfl) rfl rfl (p_mv rfl) (fun _ h => h.picks [0, 0, 1, 1, 1] rfl) ?_
    refine at_take2 7 rfl (by kernel_rfl) (by kernel_rfl) (by kernel_rfl) (fun _ h => h.picks [0, 0, 1, 1, 1] rfl) rfl rfl (p_nc rfl) (fun _ h => h.picks [0, 0, 1, 1, 1] rfl) ?_
    refine at_take2 8 rfl (by kernel_rfl) (by kernel_rfl) (by kernel_rfl) (fun _ h => h.picks [0, 0, 1, 1, 1] rfl) rfl rfl (p_fab fl120_1 rfl) (fun _ h => h.picks [0, 0, 1, 1, 1] rfl) ?_
    refine at_take2 9 rfl (by kernel_rfl) (by kernel_rfl) (by kernel_rfl) (fun _ h => h.picks [0, 0, 1, 1, 1] rfl) rfl rfl (p_lbs ty116 rfl (j := 1) rfl rfl) (fun _ h => h.picks [0, 0, 1, 1, 1] rfl) ?_
    refine at_take2 10 rfl (by kernel_rfl) (by kernel_rfl) (by kernel_rfl) (fun _ h => h.picks [0, 0, 1, 1, 1] rfl) rfl rfl (p_fab fl72_4 rfl) (fun _ h => h.picks [0, 0, 1, 1, 1] rfl) ?_
    refine at_take2 11 rfl (by kernel_rfl) (by kernel_rfl) (by kernel_rfl) (fun _ h => h.picks [0, 0, 1, 1, 1] rfl) rfl rfl (p_lbs ty9 rfl (j := 0) rfl rfl) (fun _ h => h.picks [0, 0, 1, 1, 1] rfl) ?_
    refine at_take1 12 rfl (by kernel_rfl) (by kernel_rfl) (by kernel_rfl) (by kernel_rfl) rfl rfl (p_lkm (vv := SV.v) (k := a1.Who) (z := nilS) Tryz.underlying116 (keyF9) (fun _ => by kernel_rfl) (.imp (.fam 2 rfl) (fun _ h => h.map)) rfl rfl) (fun _ h => h.picks [0, 0, 0, 0, 0, 0] rfl) ?_
    refine at_take2 13 rfl (by kernel_rfl) (by kernel_rfl) (by kernel_rfl) (fun _ h => h.picks [0, 0, 1, 1, 1] rfl) rfl rfl (p_fab fl72_2 rfl) (fun _ h => h.picks [0, 0, 1, 1, 1] rfl) ?_
    refine at_take2 14 rfl (by kernel_rfl) (by kernel_rfl) (by kernel_rfl) (fun _ h => h.picks [0, 0, 1, 1, 1] rfl) rfl rfl (p_lbs ty3 rfl (j := 0) rfl rfl) (fun _ h => h.picks [0, 0, 1, 1, 1] rfl) ?_
    refine at_take2 15 rfl (by kernel_rfl) (by kernel_rfl) (by kernel_rfl) (fun _ h => h.picks [0, 0, 1, 1, 1] rfl) rfl rfl (p_fab fl72_6 rfl) (fun _ h => h.picks [0, 0, 1, 1, 1] rfl) ?_
    refine at_take2 16 rfl (by kernel_rfl) (by kernel_rfl) (by kernel_rfl) (fun _ h => h.picks [0, 0, 1, 1, 1] rfl) rfl rfl (p_lbs ty3 rfl (j := 0) rfl rfl) (fun _ h => h.picks [0, 0, 1, 1, 1] rfl) ?_
    refine at_take2 17 rfl (by kernel_rfl) (by kernel_rfl) (by kernel_rfl) (fun _ h => h.picks [0, 0, 1, 1, 1] rfl) rfl rfl (p_bld [.int .i64 a1.At, .int .i64 (-1), .int .i64 a1.Cents] rfl (fun _ => by kernel_rfl)) (fun _ h => h.picks [0, 0, 1, 1, 1] rfl) ?_
    refine at_each (rs := [18]) (by kernel_rfl) (by decide) ?_
    refine (.cons rfl (fun I cnI => ?_) .nil)
    · refine r_bs R140 [(Tclub_stay.mk a1.At (-1) a1.Cents)] rfl rfl rfl (fun _ => by kernel_rfl) rfl (fun s8 => ?_)
      refine lj_nil ?_
      refine cnI _ _ (sof1 rfl rfl (fun _ h => h.picks [1, 1, 1, 1, 1, 1] rfl)) ?_
      refine at_each (rs := [19]) (by kernel_rfl) (by decide) ?_
      refine (.cons rfl (fun I cnI => ?_) .nil)
      · refine LJ.sat (fun _ h => h.takeR 3 rfl a1.Who) ?_
        refine r_app (k := 0) Tryz.underlying117 ty140 rfl rfl rfl rfl (.row 2 rfl) hq4 rfl (fun s10 => ?_)
        refine lj_nil ?_
        refine cnI _ _ (sof2 rfl rfl (fun _ h => h.picks [3, 3, 3, 3, 3] rfl)) ?_
        refine at_each (rs := [20]) (by kernel_rfl) (by decide) ?_
        refine (.cons rfl (fun I cnI => ?_) .nil)
        · refine r_mpuF (x1 := q4) (g1 := s10) (k := a1.Who) [1, 0] Tryz.underlying116 keyF9 rfl (.inr rfl) rfl rfl rfl (fun es11 cl12 => ?_)
          refine lj_nil ?_
          refine cnI _ _ (sof2 rfl rfl (fun _ h => h.picks [2, 2, 2, 2, 2] rfl)) ?_
          refine at_done (by kernel_rfl) ?_
          refine nj_blk ?_
          obtain rfl := Option.some.inj hm
          exact nj_rt ((putM Z0_1_ a1.Who s10), es11, cl12, es0_2_, cl0_2_) [3, 0, 2, 2] Tryz.results78 .nil rfl rfl
  · have hm := ifB_f hb hm
    refine cj_seq ?_
    refine cj_reg ?_
    refine lp rfl (p_eql rfl rfl) ?_
    refine lp rfl (p_as rfl) ?_
    refine lj_seq ?_
    refine cj_if (b := a1.Kind == 2) rfl (fun hb => ?_) (fun hb => ?_)
    · have hm := ifB_t hb hm
      refine cj_seq ?_
      refine cj_quiet (by kernel_rfl) (by kernel_rfl) ?_
      refine q_p rfl (p_mv rfl) ?_
      refine q_p rfl (p_nc rfl) ?_
      refine q_p rfl (p_fab fl120_1 rfl) ?_
      refine q_p rfl (p_lbs ty116 rfl (j := 1) rfl rfl) ?_
      refine q_p rfl (p_fab fl72_4 rfl) ?_
      refine q_p rfl (p_lbs ty9 rfl (j := 0) rfl rfl) ?_
      refine q_p rfl (p_lkm (vv := SV.v) (k := a1.Who) (z := nilS) Tryz.underlying116 (keyF9) (fun _ => by kernel_rfl) (.imp (.fam 2 rfl) (fun _ h => h.map)) rfl rfl) ?_
      refine q_p rfl (p_as rfl) ?_
      refine q_nil ?_
      refine nj_seq ?_
      refine cj_reg ?_
      refine lp rfl (p_mv rfl) ?_
      refine lp rfl (p_mv rfl) ?_
      refine lp rfl (p_len Tryz.underlying117 rfl (.imp (.fam 2 rfl) (fun _ h => h.look a1.Who))) ?_
      refine lp rfl (p_sub rfl rfl) ?_
      refine lp rfl (p_fab fl72_2 rfl) ?_
      refine lp rfl (p_lbs ty3 rfl (j := 0) rfl rfl) ?_
      obtain ⟨e13, he13, hm⟩ := bindS hm
      refine lp rfl (p_idx Tryz.underlying117 ty140 rfl rfl (.imp (.fam 2 rfl) (fun _ h => h.look a1.Who)) he13) ?_
      refine lp rfl (p_fae fl140_1 rfl (.imp (.fam 2 rfl) (fun _ h => h.look a1.Who)) (getI_spec he13).2) ?_
      refine LJ.sat (fun _ h => h.takeR 2 rfl a1.Who) ?_
      refine r_ste (k := 0) (o := 1) (vs := [.int .i64 a1.At]) ty3 rfl rfl rfl rfl rfl rfl rfl (getI_spec he13).2 (Tclub_stay.mk e13.since a1.At e13.cents) rfl rfl ?_
      refine LJ.sat (fun _ h => h.giveR [1, 0] rfl) ?_
      refine lj_nil ?_
      refine nj_blk ?_
      obtain rfl := Option.some.inj hm
      exact nj_rt (Z0_1_, es0_1_, cl0_1_, es0_2_, cl0_2_) [2, 0, 1, 1] Tryz.results78 .nil rfl rfl
    · have hm := ifB_f hb hm
      refine cj_seq ?_
      refine cj_reg ?_
      refine lp rfl (p_eql rfl rfl) ?_
      refine lp rfl (p_as rfl) ?_
      refine lj_seq ?_
      refine cj_if (b := a1.Kind == 3) rfl (fun hb => ?_) (fun hb => ?_)
      · have hm := ifB_t hb hm
        refine cj_tail 10 (by kernel_rfl) (by kernel_rfl) ?_
        refine s_p rfl (p_mv rfl) ?_
        refine s_p rfl (p_nc rfl) ?_
        refine s_p rfl (p_fab fl120_2 rfl) ?_
        refine s_p rfl (p_lbs ty108 rfl (j := 1) rfl rfl) ?_
        refine s_p rfl (p_fab fl72_4 rfl) ?_
        refine s_p rfl (p_lbs ty9 rfl (j := 0) rfl rfl) ?_
        refine s_p rfl (p_lkm (vv := vv3) (k := a1.Who) (z := 0) Tryz.underlying108 (keyF9) (fun _ => by kernel_rfl) (.map 3 rfl) rfl rfl) ?_
        refine s_p rfl (p_fab fl72_6 rfl) ?_
        refine s_p rfl (p_lbs ty3 rfl (j := 0) rfl rfl) ?_
        refine s_p rfl (p_add rfl rfl) ?_
        refine s_nil ?_
        refine r_mpu (j := 3) (vv := vv3) (k := a1.Who) (v := (w64 (((lkM a0_2 a1.Who).getD 0) + a1.Cents))) Tryz.underlying108 keyF9 rfl rfl rfl rfl (fun es15 cl16 => ?_)
        refine lj_nil ?_
        refine nj_blk ?_
        obtain rfl := Option.some.inj hm
        exact nj_rt (Z0_1_, es0_1_, cl0_1_, es15, cl16) [1, 1, 1, 1] Tryz.results78 .nil rfl rfl
      · have hm := ifB_f hb hm
        refine cj_seq ?_
        refine cj_reg ?_
        refine lp rfl (p_eql rfl rfl) ?_
        refine lp rfl (p_as rfl) ?_
        refine lj_seq ?_
        refine cj_if (b := a1.Kind == 4) rfl (fun hb => ?_) (fun hb => ?_)
        · have hm := ifB_t hb hm
          cases hm
        · have hm := ifB_f hb hm
          refine cj_seq ?_
          refine cj_reg ?_
          refine lp rfl (p_eql rfl rfl) ?_
          refine lp rfl (p_as rfl) ?_
          refine lj_seq ?_
          refine cj_if (b := a1.Kind == 5) rfl (fun hb => ?_) (fun hb => ?_)
          · have hm := ifB_t hb hm
            refine cj_tail 14 (by kernel_rfl) (by kernel_rfl) ?_
            refine s_p rfl (p_mv rfl) ?_
            refine s_p rfl (p_nc rfl) ?_
            refine s_p rfl (p_fab fl120_3 rfl) ?_
            refine s_p rfl (p_lbs ty118 rfl (j := 1) rfl rfl) ?_
            refine s_p rfl (p_fab fl72_5 rfl) ?_
            refine s_p rfl (p_lbs ty9 rfl (j := 0) rfl rfl) ?_
            refine s_p rfl (p_lkm (vv := vv174) (k := a1.Motion) (z := ()) Tryz.underlying118 (keyF9) (fun _ => by kernel_rfl) (.map 4 rfl) rfl rfl) ?_
            cases hm
          · have hm := ifB_f hb hm
            refine cj_seq ?_
            refine cj_reg ?_
            refine lp rfl (p_eql rfl rfl) ?_
            refine lp rfl (p_as rfl) ?_
            refine lj_seq ?_
            refine cj_if (b := a1.Kind == 6) rfl (fun hb => ?_) (fun hb => ?_)
            · have hm := ifB_t hb hm
              refine cj_seq ?_
              refine cj_quiet (by kernel_rfl) (by kernel_rfl) ?_
              refine q_p rfl (p_mv rfl) ?_
              refine q_p rfl (p_nc rfl) ?_
              refine q_p rfl (p_fab fl120_3 rfl) ?_
              refine q_p rfl (p_lbs ty118 rfl (j := 1) rfl rfl) ?_
              refine q_p rfl (p_fab fl72_5 rfl) ?_
              refine q_p rfl (p_lbs ty9 rfl (j := 0) rfl rfl) ?_
              refine q_p rfl (p_lkm (vv := vv174) (k := a1.Motion) (z := ()) Tryz.underlying118 (keyF9) (fun _ => by kernel_rfl) (.map 4 rfl) rfl rfl) ?_
              refine q_p rfl (p_as rfl) ?_
              refine q_nil ?_
              refine nj_seq ?_
              refine cj_reg ?_
              refine lp rfl (p_mv rfl) ?_
              refine lp rfl (p_mv rfl) ?_
              refine lp rfl (p_mv rfl) ?_
              obtain ⟨y19, hy19, hm⟩ := bindS hm
              refine r_call [1] cf41 rfl rfl (ok_club_books_members b0_ a0_0 b0_1_ Z0_1_ es0_1_ cl0_1_ a0_1 b0_2_ es0_2_ cl0_2_ a0_2 b0_3_ es0_3_ cl0_3_ a0_3 s0_4_ a0_4 hy19) rfl rfl (.cons (.fam 1 rfl) (.cons (.map 2 rfl) (.cons (.map 3 rfl) (.cons (.ro 4 rfl) .nil)))) (fun _ => rfl) rfl (fun s20 => ?_)
              cases hm
            · have hm := ifB_f hb hm
              refine cj_skip ?_
              refine nj_blk ?_
              obtain rfl := Option.some.inj hm
              exact nj_rt (Z0_1_, es0_1_, cl0_1_, es0_2_, cl0_2_) [1, 1, 1, 1] Tryz.results78 .nil rfl rfl
theorem ok_club_booksAt (s0_ : SV) (a0 : (List TAct)) (a1 : Int) {r : (Int × (List (ByteArray × (List Tclub_stay))) × (List (ByteArray × Int)) × (List (ByteArray × Unit)) × (List Int))} (hm : m_club_booksAt a0 a1 = some r) :
    Ctr Tryz.prog 60 [s0_.v, .int .i64 a1].toArray ([] : List Ent) [RdS R72 (SV.v s0_) a0] (X := (Nat × Nat × List (ByteArray × SV) × Array MapEntry × Nat × Nat × Array MapEntry × Nat × Nat × Array MapEntry × Nat × SV)) (fun s => .pointer (some ⟨s.1, 0, none⟩)) (fun s => [.box s.1 120 [.int .i64 r.1, .map (some s.2.1), .map (some s.2.2.2.2.2.1), .map (some s.2.2.2.2.2.2.2.2.1), s.2.2.2.2.2.2.2.2.2.2.2.v], .obj (famO kv9 SV.v (rowE R140) s.2.1 r.2.1 s.2.2.1 none s.2.2.2.1 s.2.2.2.2.1), .obj (mapO kv9 s.2.2.2.2.2.1 (mpV vv3 r.2.2.1) s.2.2.2.2.2.2.1 s.2.2.2.2.2.2.2.1), .obj (mapO kv9 s.2.2.2.2.2.2.2.2.1 (mpV vv174 r.2.2.2.1) s.2.2.2.2.2.2.2.2.2.1 s.2.2.2.2.2.2.2.2.2.2.1), .row R3 (SV.v s.2.2.2.2.2.2.2.2.2.2.2) r.2.2.2.2]) := by
  unfold m_club_booksAt at hm
  refine ctr_mk (vs := [(0, s0_.v), (1, .int .i64 a1)]) Tryz.func60 rfl Tryz.ntmps60 rfl ⟨rfl, rfl, trivial⟩ (fun w0 A => ?_)
  refine cj_seq ?_
  refine cj_reg ?_
  refine lp rfl (p_as rfl) ?_
  refine lj_seq ?_
  refine cj_seq ?_
  refine cj_reg ?_
  refine lp rfl (p_mv rfl) ?_
  refine r_mkmapF kv9 SV.v (rowE R140) rfl (fun b1 => ?_)
  refine r_mkmap kv9 vv3 rfl (fun b2 => ?_)
  refine r_mkmap kv9 vv174 rfl (fun b3 => ?_)
  refine lp rfl (p_bld [.int .i64 a1, .map (some b1), .map (some b2), .map (some b3), .slice none 0 0] rfl (fun _ => by kernel_rfl)) ?_
  refine r_bx (cs := [.int .i64 a1, .map (some b1), .map (some b2), .map (some b3), .slice none 0 0]) rfl rfl rfl (fun b4 => ?_)
  refine lp rfl (p_as rfl) ?_
  refine lj_seq ?_
  refine cj_seq ?_
  refine cj_seq ?_
  refine cj_reg ?_
  refine lp rfl (p_mv rfl) ?_
  refine lp rfl (p_mv rfl) ?_
  obtain ⟨y5, hy5, hm⟩ := bindS hm
  refine r_call [] cf76 rfl rfl (ok_club_counting s0_ a0 a1 hy5) rfl rfl (.cons (.ro 4 rfl) .nil) (fun _ => rfl) rfl (fun s6 => ?_)
  refine lp rfl (p_len Tryz.underlying22 rfl (.row 0 rfl)) ?_
  refine lp rfl (p_mv rfl) ?_
  refine lj_seq ?_
  refine cj_nil R3 ?_
  obtain ⟨f14, hf14, hm⟩ := bindS hm
  refine cj_range (γ := (Array MapEntry × Nat × List (ByteArray × SV) × Array MapEntry × Nat × SV)) (m := (y5.length : Int)) hf14 (#[], 0, [], #[], 0, nilS) (fun u11 g12 => [(0, s0_.v), (4, .pointer none), (5, .pointer (some ⟨b4, 0, none⟩)), (16, s6.v)]) (fun u11 g12 => Sat w0 (keys ([] : List Ent)) A [.row R3 (SV.v s6) y5, .box b4 120 [.int .i64 a1, .map (some b1), .map (some b2), .map (some b3), g12.2.2.2.2.2.v], .obj (mapO kv9 b3 (mpV vv174 []) (#[]) 0), .obj (mapO kv9 b2 (mpV vv3 u11.1) g12.1 g12.2.1), .obj (famO kv9 SV.v (rowE R140) b1 u11.2.1 g12.2.2.1 none g12.2.2.2.1 g12.2.2.2.2.1), .ro (RdS R72 (SV.v s0_) a0), .row R3 (SV.v g12.2.2.2.2.2) u11.2.2]) ⟨rfl, rfl, rfl, rfl, rfl, rfl, trivial⟩ (fun _ h => h.picks [1, 1, 1, 1, 1, 1, 0] rfl) (nat_lt _) (fun _ h => (FactAt.get (F := RdS R3 (SV.v s6) y5) (.row 1 rfl) h).1) (fun _ _ => ⟨rfl, rfl, rfl, rfl⟩) ⟨rfl, rfl, rfl, rfl, rfl⟩ rfl rfl rfl (fun u11 g12 e => ?_) (fun aftk13 i7 x8 u11 g12 k13 hx9 hs J hJk13 hBk13 hX I cnk13 => ?_)
  · have hm := Flow.fin_b e hm
    refine nj_seq ?_
    refine cj_seq ?_
    refine cj_reg ?_
    refine lp rfl (p_mv rfl) ?_
    refine lp rfl (p_as rfl) ?_
    refine lj_seq ?_
    obtain rfl := Option.some.inj hm
    exact cj_rt (b4, b1, g12.2.2.1, g12.2.2.2.1, g12.2.2.2.2.1, b2, g12.1, g12.2.1, b3, (#[]), 0, g12.2.2.2.2.2) [1, 3, 2, 1, 2] Tryz.results60 (.tmp rfl .nil) rfl rfl
  · have hRk13 : ∀ t, k13 = .ret t → some t = some r := fun t e => by rw [hX t e] at hm; exact hm
    have hm := hs
    refine cj_seq ?_
    refine cj_reg ?_
    refine lp rfl (p_idx Tryz.underlying22 ty3 rfl rfl (.row 0 rfl) (getI_nat.trans hx9)) ?_
    refine lp rfl (p_lde (o := 0) ty3 rfl rfl (.row 0 rfl) hx9 rfl) ?_
    refine lp rfl (p_as rfl) ?_
    refine lj_seq ?_
    refine cj_seq ?_
    refine cj_reg ?_
    refine lp rfl (p_mv rfl) ?_
    refine lp rfl (p_mv rfl) ?_
    refine lp rfl (p_mv rfl) ?_
    obtain ⟨e16, he16, hm⟩ := bindS hm
    refine lp rfl (p_idx Tryz.underlying73 ty72 rfl rfl (.ro 5 rfl) he16) ?_
    refine lp rfl (p_lea ty72 rfl (.ro 5 rfl) (getI_spec he16).2) ?_
    obtain ⟨y17, hy17, hm⟩ := bindS hm
    refine r_call [1] cf77 rfl rfl (ok_club_books_permits b4 a1 b1 g12.2.2.1 g12.2.2.2.1 g12.2.2.2.2.1 u11.2.1 b2 g12.1 g12.2.1 u11.1 b3 (#[]) 0 ([] : (List (ByteArray × Unit))) g12.2.2.2.2.2 u11.2.2 e16 hy17) rfl rfl (.cons (.fam 3 rfl) (.cons (.map 2 rfl) (.cons (.map 1 rfl) (.cons (.row 5 rfl) .nil)))) (fun _ => rfl) rfl (fun _ => ?_)
    refine lj_seq ?_
    refine cj_if (b := y17) rfl (fun hb => ?_) (fun hb => ?_)
    · have hm := ifB_t hb hm
      refine cj_reg ?_
      refine lp rfl (p_mv rfl) ?_
      refine lp rfl (p_mv rfl) ?_
      refine lp rfl (p_mv rfl) ?_
      obtain ⟨e18, he18, hm⟩ := bindS hm
      refine lp rfl (p_idx Tryz.underlying73 ty72 rfl rfl (.ro 5 rfl) he18) ?_
      refine lp rfl (p_lea ty72 rfl (.ro 5 rfl) (getI_spec he18).2) ?_
      obtain ⟨y19, hy19, hm⟩ := bindS hm
      refine r_call [0, 3, 2, 1] cf78 rfl rfl (ok_club_books_act b4 a1 b1 g12.2.2.1 g12.2.2.2.1 g12.2.2.2.2.1 u11.2.1 b2 g12.1 g12.2.1 u11.1 b3 (#[]) 0 ([] : (List (ByteArray × Unit))) g12.2.2.2.2.2 u11.2.2 e18 hy19) rfl rfl (.cons (.row 2 rfl) .nil) (fun _ => rfl) rfl (fun ⟨gz20, gz21, gz22, gz23, gz24⟩ => ?_)
      refine lj_nil ?_
      refine nj_blk ?_
      exact cnk13 _ _ (y19.2, y19.1, u11.2.2) (gz23, gz24, gz20, gz21, gz22, g12.2.2.2.2.2) (hJk13 _ (Option.some.inj hm).symm) ⟨rfl, rfl, rfl, rfl, rfl, rfl, trivial⟩ (fun _ h => h.picks [4, 0, 2, 1, 0, 0, 0] rfl)
    · have hm := ifB_f hb hm
      refine cj_reg ?_
      refine lp rfl (p_mv rfl) ?_
      refine lp rfl (p_mv rfl) ?_
      refine lp rfl (p_nc rfl) ?_
      refine lp rfl (p_fab fl120_4 rfl) ?_
      refine lp rfl (p_lbs ty22 rfl (j := 0) rfl rfl) ?_
      refine lp rfl (p_mv rfl) ?_
      refine r_bs R3 [x8] rfl rfl rfl (fun _ => by kernel_rfl) rfl (fun s25 => ?_)
      obtain ⟨q26, hq26, hm⟩ := bindS hm
      refine r_app (k := 7) Tryz.underlying22 ty3 rfl rfl rfl rfl (.row 0 rfl) hq26 rfl (fun s27 => ?_)
      refine lp rfl (p_nc rfl) ?_
      refine lp rfl (p_fab fl120_4 rfl) ?_
      refine r_sb (vs := [s27.v]) (j := 1) ty22 rfl rfl rfl rfl rfl rfl rfl ?_
      refine lj_nil ?_
      refine nj_blk ?_
      exact cnk13 _ _ (u11.1, u11.2.1, q26) (g12.1, g12.2.1, g12.2.2.1, g12.2.2.2.1, g12.2.2.2.2.1, s27) (hJk13 _ (Option.some.inj hm).symm) ⟨rfl, rfl, rfl, rfl, rfl, rfl, trivial⟩ (fun _ h => h.picks [2, 1, 1, 1, 1, 1, 1] rfl)
theorem ok_club_checkedAt (s0_ : SV) (a0 : (List TAct)) (a1 : Int) {r : (Option (Int × (List (ByteArray × (List Tclub_stay))) × (List (ByteArray × Int)) × (List (ByteArray × Unit)) × (List Int))) × Int} (hm : m_club_checkedAt a0 a1 = some r) :
    Ctr Tryz.prog 40 [s0_.v, .int .i64 a1].toArray ([] : List Ent) [RdS R72 (SV.v s0_) a0] (X := (Nat × Nat × List (ByteArray × SV) × Array MapEntry × Nat × Nat × Array MapEntry × Nat × Nat × Array MapEntry × Nat × SV)) (fun s => .tuple [optV r.1 (.pointer (some ⟨s.1, 0, none⟩)), .int .i64 r.2].toArray) (fun s => (optE r.1 (fun t_ => [.box s.1 120 [.int .i64 t_.1, .map (some s.2.1), .map (some s.2.2.2.2.2.1), .map (some s.2.2.2.2.2.2.2.2.1), s.2.2.2.2.2.2.2.2.2.2.2.v], .obj (famO kv9 SV.v (rowE R140) s.2.1 t_.2.1 s.2.2.1 none s.2.2.2.1 s.2.2.2.2.1), .obj (mapO kv9 s.2.2.2.2.2.1 (mpV vv3 t_.2.2.1) s.2.2.2.2.2.2.1 s.2.2.2.2.2.2.2.1), .obj (mapO kv9 s.2.2.2.2.2.2.2.2.1 (mpV vv174 t_.2.2.2.1) s.2.2.2.2.2.2.2.2.2.1 s.2.2.2.2.2.2.2.2.2.2.1), .row R3 (SV.v s.2.2.2.2.2.2.2.2.2.2.2) t_.2.2.2.2])) ++ []) := by
  unfold m_club_checkedAt at hm
  refine ctr_mk (vs := [(0, s0_.v), (1, .int .i64 a1)]) Tryz.func40 rfl Tryz.ntmps40 rfl ⟨rfl, rfl, trivial⟩ (fun w0 A => ?_)
  refine cj_seq ?_
  refine cj_reg ?_
  refine lp rfl (p_as rfl) ?_
  refine lp rfl (p_as rfl) ?_
  refine lj_seq ?_
  refine cj_seq ?_
  refine cj_seq ?_
  refine cj_reg ?_
  refine lp rfl (p_mv rfl) ?_
  refine lp rfl (p_mv rfl) ?_
  obtain ⟨y1, hy1, hm⟩ := bindS hm
  refine r_call [] cf59 rfl rfl (ok_club_askedFault s0_ a0 a1 hy1) rfl rfl (.cons (.ro 0 rfl) .nil) (fun _ => rfl) rfl (fun _ => ?_)
  refine lp rfl (p_as rfl) ?_
  refine lj_seq ?_
  refine cj_seq ?_
  refine cj_reg ?_
  refine lp rfl (p_mv rfl) ?_
  refine lp rfl (p_neq rfl rfl) ?_
  refine lj_seq ?_
  refine cj_if (b := y1 != 0) rfl (fun hb => ?_) (fun hb => ?_)
  · have hm := ifB_t hb hm
    refine cj_seq ?_
    refine cj_reg ?_
    refine lp rfl (p_mv rfl) ?_
    refine lp rfl (p_as rfl) ?_
    refine lp rfl (p_as rfl) ?_
    refine lj_seq ?_
    obtain rfl := Option.some.inj hm
    exact cj_rt (0, 0, [], #[], 0, 0, #[], 0, 0, #[], 0, nilS) [] Tryz.results40 (.tmp rfl (.tmp rfl .nil)) rfl rfl
  · have hm := ifB_f hb hm
    refine cj_skip ?_
    refine nj_seq ?_
    refine cj_seq ?_
    refine cj_reg ?_
    refine lp rfl (p_mv rfl) ?_
    refine lp rfl (p_mv rfl) ?_
    obtain ⟨y2, hy2, hm⟩ := bindS hm
    refine r_call [] cf60 rfl rfl (ok_club_booksAt s0_ a0 a1 hy2) rfl rfl (.cons (.ro 0 rfl) .nil) (fun _ => rfl) rfl (fun ⟨b3, b4, gz5, gz6, gz7, b8, gz9, gz10, b11, gz12, gz13, s14⟩ => ?_)
    refine lp rfl (p_as rfl) ?_
    refine lp rfl (p_as rfl) ?_
    refine lj_seq ?_
    obtain rfl := Option.some.inj hm
    exact cj_rt (b3, b4, gz5, gz6, gz7, b8, gz9, gz10, b11, gz12, gz13, s14) [0, 0, 0, 0, 0] Tryz.results40 (.tmp rfl (.tmp rfl .nil)) rfl rfl
theorem ok_club_Members (s0_ : SV) (a0 : (List TAct)) (a1 : Int) {r : (List ByteArray) × Int} (hm : m_club_Members a0 a1 = some r) :
    Ctr Tryz.prog 21 [s0_.v, .int .i64 a1].toArray ([] : List Ent) [RdS R72 (SV.v s0_) a0] (X := SV) (fun s => .tuple [s.v, .int .i64 r.2].toArray) (fun s => [.row R9 (SV.v s) r.1]) := by
  unfold m_club_Members at hm
  refine ctr_mk (vs := [(0, s0_.v), (1, .int .i64 a1)]) Tryz.func21 rfl Tryz.ntmps21 rfl ⟨rfl, rfl, trivial⟩ (fun w0 A => ?_)
  refine cj_seq ?_
  refine cj_reg ?_
  refine lp rfl (p_as rfl) ?_
  refine lp rfl (p_as rfl) ?_
  refine lj_seq ?_
  refine cj_seq ?_
  refine cj_reg ?_
  refine lp rfl (p_mv rfl) ?_
  refine lp rfl (p_mv rfl) ?_
  obtain ⟨y1, hy1, hm⟩ := bindS hm
  refine optB_cases hm (fun ho3 hm => ?_) (fun t2 ho3 hm => ?_)
  · have hc4 := (ok_club_checkedAt s0_ a0 a1 hy1)
    rw [ho3] at hc4
    simp only [optE_none, optE_some, optV_none, optV_some, List.nil_append, List.cons_append] at hc4
    refine r_call [] cf40 rfl rfl hc4 rfl rfl (.cons (.ro 0 rfl) .nil) (fun _ => rfl) rfl (fun ⟨b5, b6, gz7, gz8, gz9, b10, gz11, gz12, b13, gz14, gz15, s16⟩ => ?_)
    refine lp rfl (p_mv rfl) ?_
    refine lp rfl (p_ext rfl rfl) ?_
    refine lp rfl (p_ext rfl rfl) ?_
    refine lp rfl (p_as rfl) ?_
    refine lp rfl (p_as rfl) ?_
    refine lj_seq ?_
    refine cj_seq ?_
    refine cj_seq ?_
    refine cj_reg ?_
    refine lp rfl (p_mv rfl) ?_
    refine lp rfl (p_neq rfl rfl) ?_
    refine lj_seq ?_
    refine cj_if (b := y1.2 != 0) rfl (fun hb => ?_) (fun hb => ?_)
    · have hm := ifB_t hb hm
      refine cj_seq ?_
      refine cj_reg ?_
      refine lp rfl (p_mv rfl) ?_
      refine lp rfl (p_as rfl) ?_
      refine lp rfl (p_as rfl) ?_
      refine lj_seq ?_
      obtain rfl := Option.some.inj hm
      refine cj_nil R9 ?_
      exact cj_rt nilS [0] Tryz.results21 (.tmp rfl (.tmp rfl .nil)) rfl rfl
    · have hm := ifB_f hb hm
      refine cj_skip ?_
      refine nj_seq ?_
      refine cj_seq ?_
      refine cj_reg ?_
      refine lp rfl (p_mv rfl) ?_
      cases hm
  · have hc4 := (ok_club_checkedAt s0_ a0 a1 hy1)
    rw [ho3] at hc4
    simp only [optE_none, optE_some, optV_none, optV_some, List.nil_append, List.cons_append] at hc4
    refine r_call [] cf40 rfl rfl hc4 rfl rfl (.cons (.ro 0 rfl) .nil) (fun _ => rfl) rfl (fun ⟨b18, b19, gz20, gz21, gz22, b23, gz24, gz25, b26, gz27, gz28, s29⟩ => ?_)
    refine lp rfl (p_mv rfl) ?_
    refine lp rfl (p_ext rfl rfl) ?_
    refine lp rfl (p_ext rfl rfl) ?_
    refine lp rfl (p_as rfl) ?_
    refine lp rfl (p_as rfl) ?_
    refine lj_seq ?_
    refine cj_seq ?_
    refine cj_seq ?_
    refine cj_reg ?_
    refine lp rfl (p_mv rfl) ?_
    refine lp rfl (p_neq rfl rfl) ?_
    refine lj_seq ?_
    refine cj_if (b := y1.2 != 0) rfl (fun hb => ?_) (fun hb => ?_)
    · have hm := ifB_t hb hm
      refine cj_seq ?_
      refine cj_reg ?_
      refine lp rfl (p_mv rfl) ?_
      refine lp rfl (p_as rfl) ?_
      refine lp rfl (p_as rfl) ?_
      refine lj_seq ?_
      obtain rfl := Option.some.inj hm
      refine cj_nil R9 ?_
      exact cj_rt nilS [0] Tryz.results21 (.tmp rfl (.tmp rfl .nil)) rfl rfl
    · have hm := ifB_f hb hm
      refine cj_skip ?_
      refine nj_seq ?_
      refine cj_seq ?_
      refine cj_reg ?_
      refine lp rfl (p_mv rfl) ?_
      obtain ⟨y31, hy31, hm⟩ := bindS hm
      refine r_call [0] cf41 rfl rfl (ok_club_books_members b18 t2.1 b19 gz20 gz21 gz22 t2.2.1 b23 gz24 gz25 t2.2.2.1 b26 gz27 gz28 t2.2.2.2.1 s29 t2.2.2.2.2 hy31) rfl rfl (.cons (.fam 0 rfl) (.cons (.map 1 rfl) (.cons (.map 2 rfl) (.cons (.row 3 rfl) .nil)))) (fun _ => rfl) rfl (fun s32 => ?_)
      refine lp rfl (p_as rfl) ?_
      refine lp rfl (p_as rfl) ?_
      refine lj_seq ?_
      obtain rfl := Option.some.inj hm
      exact cj_rt s32 [0] Tryz.results21 (.tmp rfl (.tmp rfl .nil)) rfl rfl
theorem ok_gleekeep2_ready  {r : Bool} (hm : m_gleekeep2_ready  = some r) :
    Ctr Tryz.prog 10 [].toArray ([] : List Ent) [PowT] (X := Unit) (fun _ => .bool r) (fun _ => []) := by
  unfold m_gleekeep2_ready at hm
  refine ctr_mk (vs := []) Tryz.func10 rfl Tryz.ntmps10 rfl trivial (fun w0 A => ?_)
  refine cj_seq ?_
  refine cj_reg ?_
  refine lp rfl (p_as rfl) ?_
  refine lj_seq ?_
  refine cj_seq ?_
  refine cj_reg ?_
  refine lp rfl (p_bld [.int .i64 1, .int .i64 4, .int .i64 2, .int .i64 0, .bool true] rfl (fun _ => by kernel_rfl)) ?_
  refine r_bs R59 [(TBar.mk 1 4 2 0 true)] rfl rfl rfl (fun _ => by kernel_rfl) rfl (fun s1 => ?_)
  obtain ⟨y2, hy2, hm⟩ := bindS hm
  refine r_call [] cf18 rfl rfl (ok_piece_Order s1 [(TBar.mk 1 4 2 0 true)] hy2) rfl rfl (.cons (.row 0 rfl) .nil) (fun _ => rfl) rfl (fun s3 => ?_)
  refine lp rfl (p_mv rfl) ?_
  refine lp rfl (p_ext rfl rfl) ?_
  refine lp rfl (p_ext rfl rfl) ?_
  refine lp rfl (p_as rfl) ?_
  refine lp rfl (p_as rfl) ?_
  refine lj_seq ?_
  refine cj_seq ?_
  refine cj_reg ?_
  refine lp rfl (p_bld [.int .i64 1, .int .i64 2, .int .i64 1] rfl (fun _ => by kernel_rfl)) ?_
  obtain ⟨y4, hy4, hm⟩ := bindS hm
  refine r_call [] cf19 rfl rfl (ok_chord_Name (TChord.mk 1 2 1) hy4) rfl rfl (.cons (.ro 2 rfl) .nil) (fun _ => rfl) rfl (fun _ => ?_)
  refine lp rfl (p_mv rfl) ?_
  refine lp rfl (p_ext rfl rfl) ?_
  refine lp rfl (p_ext rfl rfl) ?_
  refine lp rfl (p_as rfl) ?_
  refine lp rfl (p_as rfl) ?_
  refine lj_seq ?_
  refine cj_seq ?_
  refine cj_reg ?_
  refine lp rfl (p_bld [.int .i64 5, .string (ByteArray.mk [97, 110, 110].toArray), .bool false] rfl (fun _ => by kernel_rfl)) ?_
  refine r_bs R68 [(TCame.mk 5 (ByteArray.mk [97, 110, 110].toArray) false)] rfl rfl rfl (fun _ => by kernel_rfl) rfl (fun s5 => ?_)
  obtain ⟨y6, hy6, hm⟩ := bindS hm
  refine r_call [] cf20 rfl rfl (ok_rehearse_There s5 [(TCame.mk 5 (ByteArray.mk [97, 110, 110].toArray) false)] 6 hy6) rfl rfl (.cons (.row 0 rfl) .nil) (fun _ => rfl) rfl (fun s7 => ?_)
  refine lp rfl (p_mv rfl) ?_
  refine lp rfl (p_ext rfl rfl) ?_
  refine lp rfl (p_ext rfl rfl) ?_
  refine lp rfl (p_as rfl) ?_
  refine lp rfl (p_as rfl) ?_
  refine lj_seq ?_
  refine cj_seq ?_
  refine cj_reg ?_
  refine r_bs R9 [(ByteArray.mk [97, 108, 116, 111].toArray)] rfl rfl rfl (fun _ => by kernel_rfl) rfl (fun s8 => ?_)
  refine lp rfl (p_bld [.string (ByteArray.mk [97].toArray), .string (ByteArray.mk [112].toArray), .int .i64 7, s8.v] rfl (fun _ => by kernel_rfl)) ?_
  refine r_fz 0 rfl ?_
  refine r_fact (F := Lk N44 [(TItem.mk (ByteArray.mk [97].toArray) (ByteArray.mk [112].toArray) 7 [(ByteArray.mk [97, 108, 116, 111].toArray)])] [((TItem.mk (ByteArray.mk [97].toArray) (ByteArray.mk [112].toArray) 7 [(ByteArray.mk [97, 108, 116, 111].toArray)]), s8)]) (.imp (.and (.ro 0 rfl) (.nilL N44)) (fun _ h => Lk.cons h.1 h.2)) ?_
  have hLs9 : (([((TItem.mk (ByteArray.mk [97].toArray) (ByteArray.mk [112].toArray) 7 [(ByteArray.mk [97, 108, 116, 111].toArray)]), s8)] : List (TItem × SV)).map Prod.fst) = ([(TItem.mk (ByteArray.mk [97].toArray) (ByteArray.mk [112].toArray) 7 [(ByteArray.mk [97, 108, 116, 111].toArray)])] : List TItem) := rfl
  refine r_bs N44.R [((TItem.mk (ByteArray.mk [97].toArray) (ByteArray.mk [112].toArray) 7 [(ByteArray.mk [97, 108, 116, 111].toArray)]), s8)] rfl rfl rfl (fun _ => by kernel_rfl) rfl (fun s9 => ?_)
  refine lp rfl (p_bld [s9.v, .int .i64 0, .int .i64 0, .int .i64 0, .int .i64 (-1)] rfl (fun _ => by kernel_rfl)) ?_
  obtain ⟨y10, hy10, hm⟩ := bindS hm
  refine r_call [] cf7 rfl rfl (ok_concert_Long (TProgram.mk [(TItem.mk (ByteArray.mk [97].toArray) (ByteArray.mk [112].toArray) 7 [(ByteArray.mk [97, 108, 116, 111].toArray)])] 0 0 0 (-1)) s9 [((TItem.mk (ByteArray.mk [97].toArray) (ByteArray.mk [112].toArray) 7 [(ByteArray.mk [97, 108, 116, 111].toArray)]), s8)] hy10) rfl rfl (.cons (.ro 1 rfl) (.cons (.row 0 rfl) .nil)) (fun _ => rfl) rfl (fun _ => ?_)
  refine lp rfl (p_mv rfl) ?_
  refine lp rfl (p_ext rfl rfl) ?_
  refine lp rfl (p_ext rfl rfl) ?_
  refine lp rfl (p_as rfl) ?_
  refine lp rfl (p_as rfl) ?_
  refine lj_seq ?_
  refine cj_seq ?_
  refine cj_reg ?_
  refine lp rfl (p_bld [.string (ByteArray.mk [97].toArray), .int .i64 1, .int .i64 0, .int .i64 1, .string (ByteArray.mk [97, 110, 110].toArray), .string ByteArray.empty, .int .i64 0, .bool false, .string ByteArray.empty, .int .i64 0] rfl (fun _ => by kernel_rfl)) ?_
  refine r_bs R72 [(TAct.mk (ByteArray.mk [97].toArray) 1 0 1 (ByteArray.mk [97, 110, 110].toArray) ByteArray.empty 0 false ByteArray.empty 0)] rfl rfl rfl (fun _ => by kernel_rfl) rfl (fun s11 => ?_)
  obtain ⟨y12, hy12, hm⟩ := bindS hm
  refine r_call [] cf21 rfl rfl (ok_club_Members s11 [(TAct.mk (ByteArray.mk [97].toArray) 1 0 1 (ByteArray.mk [97, 110, 110].toArray) ByteArray.empty 0 false ByteArray.empty 0)] 0 hy12) rfl rfl (.cons (.row 0 rfl) .nil) (fun _ => rfl) rfl (fun s13 => ?_)
  refine lp rfl (p_mv rfl) ?_
  refine lp rfl (p_ext rfl rfl) ?_
  refine lp rfl (p_ext rfl rfl) ?_
  refine lp rfl (p_as rfl) ?_
  refine lp rfl (p_as rfl) ?_
  refine lj_seq ?_
  refine cj_seq ?_
  refine cj_reg ?_
  refine lp rfl (p_mv rfl) ?_
  refine lp rfl (p_mv rfl) ?_
  refine lp rfl (p_mv rfl) ?_
  refine lp rfl (p_mv rfl) ?_
  refine lp rfl (p_mv rfl) ?_
  refine r_bs R32 [y2.2, y4.2, y6.2, y10.2, y12.2] rfl rfl rfl (fun _ => by kernel_rfl) rfl (fun s14 => ?_)
  obtain ⟨y15, hy15, hm⟩ := bindS hm
  refine r_call [] cf9 rfl rfl (ok_gleekeep2_errs s14 [y2.2, y4.2, y6.2, y10.2, y12.2] hy15) rfl rfl (.cons (.row 0 rfl) .nil) (fun _ => rfl) rfl (fun _ => ?_)
  refine lp rfl (p_eql rfl rfl) ?_
  refine lp rfl (p_mv rfl) ?_
  refine lcase (i := 50) (y15 == 0) rfl (fun hb => ?_) (fun hb => ?_)
  · have hm := ifB_t hb hm
    refine lg true rfl rfl rfl ?_
    refine lp rfl (p_mv rfl) ?_
    refine lg true rfl rfl rfl ?_
    refine lp rfl (p_len Tryz.underlying22 rfl (.row 8 rfl)) ?_
    refine lg true rfl rfl rfl ?_
    refine lp rfl (p_eql rfl rfl) ?_
    refine lp rfl (p_pkt rfl rfl) ?_
    refine lp rfl (p_mv rfl) ?_
    refine lcase (i := 55) ((y2.1.length : Int) == 2) rfl (fun hb => ?_) (fun hb => ?_)
    · have hm := ifB_t hb hm
      refine lg true rfl rfl rfl ?_
      refine lp rfl (p_mv rfl) ?_
      refine lg true rfl rfl rfl ?_
      refine lp rfl (p_eqs rfl rfl) ?_
      refine lp rfl (p_pkt rfl rfl) ?_
      refine lp rfl (p_mv rfl) ?_
      refine lcase (i := 59) (y4.1.toList == (ByteArray.mk [99, 35, 32, 109, 105, 110, 47, 49].toArray).toList) rfl (fun hb => ?_) (fun hb => ?_)
      · have hm := ifB_t hb hm
        refine lg true rfl rfl rfl ?_
        refine lp rfl (p_mv rfl) ?_
        refine lg true rfl rfl rfl ?_
        refine lp rfl (p_len Tryz.underlying42 rfl (.row 6 rfl)) ?_
        refine lg true rfl rfl rfl ?_
        refine lp rfl (p_eql rfl rfl) ?_
        refine lp rfl (p_pkt rfl rfl) ?_
        refine lp rfl (p_mv rfl) ?_
        refine lcase (i := 64) ((y6.1.length : Int) == 1) rfl (fun hb => ?_) (fun hb => ?_)
        · have hm := ifB_t hb hm
          refine lg true rfl rfl rfl ?_
          refine lp rfl (p_mv rfl) ?_
          refine lg true rfl rfl rfl ?_
          refine lp rfl (p_eql rfl rfl) ?_
          refine lp rfl (p_pkt rfl rfl) ?_
          refine lp rfl (p_mv rfl) ?_
          refine lcase (i := 68) (y10.1 == 7) rfl (fun hb => ?_) (fun hb => ?_)
          · have hm := ifB_t hb hm
            refine lg true rfl rfl rfl ?_
            refine lp rfl (p_mv rfl) ?_
            refine lg true rfl rfl rfl ?_
            refine lp rfl (p_len Tryz.underlying42 rfl (.row 1 rfl)) ?_
            refine lg true rfl rfl rfl ?_
            refine lp rfl (p_eql rfl rfl) ?_
            refine lp rfl (p_pkt rfl rfl) ?_
            refine lp rfl (p_as rfl) ?_
            refine lj_seq ?_
            obtain rfl := Option.some.inj hm
            exact cj_rt () [] Tryz.results10 (.tmp rfl .nil) rfl rfl
          · have hm := ifB_f hb hm
            refine ls true rfl rfl rfl rfl ?_
            refine ls true rfl rfl rfl rfl ?_
            refine ls true rfl rfl rfl rfl ?_
            refine lp rfl (p_pkf rfl rfl) ?_
            refine lp rfl (p_as rfl) ?_
            refine lj_seq ?_
            obtain rfl := Option.some.inj hm
            exact cj_rt () [] Tryz.results10 (.tmp rfl .nil) rfl rfl
        · have hm := ifB_f hb hm
          refine ls true rfl rfl rfl rfl ?_
          refine ls true rfl rfl rfl rfl ?_
          refine lp rfl (p_pkf rfl rfl) ?_
          refine lp rfl (p_mv rfl) ?_
          refine ls true rfl rfl rfl rfl ?_
          refine ls true rfl rfl rfl rfl ?_
          refine ls true rfl rfl rfl rfl ?_
          refine lp rfl (p_pkf rfl rfl) ?_
          refine lp rfl (p_as rfl) ?_
          refine lj_seq ?_
          obtain rfl := Option.some.inj hm
          exact cj_rt () [] Tryz.results10 (.tmp rfl .nil) rfl rfl
      · have hm := ifB_f hb hm
        refine ls true rfl rfl rfl rfl ?_
        refine ls true rfl rfl rfl rfl ?_
        refine ls true rfl rfl rfl rfl ?_
        refine lp rfl (p_pkf rfl rfl) ?_
        refine lp rfl (p_mv rfl) ?_
        refine ls true rfl rfl rfl rfl ?_
        refine ls true rfl rfl rfl rfl ?_
        refine lp rfl (p_pkf rfl rfl) ?_
        refine lp rfl (p_mv rfl) ?_
        refine ls true rfl rfl rfl rfl ?_
        refine ls true rfl rfl rfl rfl ?_
        refine ls true rfl rfl rfl rfl ?_
        refine lp rfl (p_pkf rfl rfl) ?_
        refine lp rfl (p_as rfl) ?_
        refine lj_seq ?_
        obtain rfl := Option.some.inj hm
        exact cj_rt () [] Tryz.results10 (.tmp rfl .nil) rfl rfl
    · have hm := ifB_f hb hm
      refine ls true rfl rfl rfl rfl ?_
      refine ls true rfl rfl rfl rfl ?_
      refine lp rfl (p_pkf rfl rfl) ?_
      refine lp rfl (p_mv rfl) ?_
      refine ls true rfl rfl rfl rfl ?_
      refine ls true rfl rfl rfl rfl ?_
      refine ls true rfl rfl rfl rfl ?_
      refine lp rfl (p_pkf rfl rfl) ?_
      refine lp rfl (p_mv rfl) ?_
      refine ls true rfl rfl rfl rfl ?_
      refine ls true rfl rfl rfl rfl ?_
      refine lp rfl (p_pkf rfl rfl) ?_
      refine lp rfl (p_mv rfl) ?_
      refine ls true rfl rfl rfl rfl ?_
      refine ls true rfl rfl rfl rfl ?_
      refine ls true rfl rfl rfl rfl ?_
      refine lp rfl (p_pkf rfl rfl) ?_
      refine lp rfl (p_as rfl) ?_
      refine lj_seq ?_
      obtain rfl := Option.some.inj hm
      exact cj_rt () [] Tryz.results10 (.tmp rfl .nil) rfl rfl
  · have hm := ifB_f hb hm
    refine ls true rfl rfl rfl rfl ?_
    refine ls true rfl rfl rfl rfl ?_
    refine ls true rfl rfl rfl rfl ?_
    refine lp rfl (p_pkf rfl rfl) ?_
    refine lp rfl (p_mv rfl) ?_
    refine ls true rfl rfl rfl rfl ?_
    refine ls true rfl rfl rfl rfl ?_
    refine lp rfl (p_pkf rfl rfl) ?_
    refine lp rfl (p_mv rfl) ?_
    refine ls true rfl rfl rfl rfl ?_
    refine ls true rfl rfl rfl rfl ?_
    refine ls true rfl rfl rfl rfl ?_
    refine lp rfl (p_pkf rfl rfl) ?_
    refine lp rfl (p_mv rfl) ?_
    refine ls true rfl rfl rfl rfl ?_
    refine ls true rfl rfl rfl rfl ?_
    refine lp rfl (p_pkf rfl rfl) ?_
    refine lp rfl (p_mv rfl) ?_
    refine ls true rfl rfl rfl rfl ?_
    refine ls true rfl rfl rfl rfl ?_
    refine ls true rfl rfl rfl rfl ?_
    refine lp rfl (p_pkf rfl rfl) ?_
    refine lp rfl (p_as rfl) ?_
    refine lj_seq ?_
    obtain rfl := Option.some.inj hm
    exact cj_rt () [] Tryz.results10 (.tmp rfl .nil) rfl rfl
theorem ok_gleekeep2_ConcertsHaveNoGaps (s0_ : SV) (a0 : (List Int)) {r : Bool} (hm : m_gleekeep2_ConcertsHaveNoGaps a0 = some r) :
    Ctr Tryz.prog 3 [s0_.v].toArray ([] : List Ent) [RdS R3 (SV.v s0_) a0, PowT] (X := Unit) (fun _ => .bool r) (fun _ => []) := by
  unfold m_gleekeep2_ConcertsHaveNoGaps at hm
  refine ctr_mk (vs := [(0, s0_.v)]) Tryz.func3 rfl Tryz.ntmps3 rfl ⟨rfl, trivial⟩ (fun w0 A => ?_)
  refine cj_seq ?_
  refine cj_reg ?_
  refine lp rfl (p_as rfl) ?_
  refine lj_seq ?_
  refine cj_seq ?_
  refine cj_reg ?_
  refine lp rfl (p_mv rfl) ?_
  refine lp rfl (p_bld [s0_.v, .int .i64 0] rfl (fun _ => by kernel_rfl)) ?_
  refine r_bx (cs := [s0_.v, .int .i64 0]) rfl rfl rfl (fun b1 => ?_)
  refine lp rfl (p_as rfl) ?_
  refine lj_seq ?_
  refine cj_seq ?_
  refine cj_reg ?_
  refine lp rfl (p_mv rfl) ?_
  obtain ⟨y2, hy2, hm⟩ := bindS hm
  refine r_callN [0] cf4 rfl rfl (ok_gleemake_Stream_RightProgram b1 s0_ a0 0 5 hy2) rfl rfl (.cons (.ro 0 rfl) .nil) rfl (fun ⟨s3, xg4⟩ => ?_)
  refine r_pure (F := Lk N44 y2.1.Items xg4) (.ro 1 rfl) (fun _ h => h.1) (fun hLs3 => ?_)
  refine lp rfl (p_mv rfl) ?_
  obtain ⟨y5, hy5, hm⟩ := bindS hm
  refine r_call [2] cf5 rfl rfl (ok_gleemake_Stream_Range b1 s0_ a0 y2.2 0 1000 hy5) rfl rfl (.cons (.ro 2 rfl) .nil) (fun _ => rfl) rfl (fun _ => ?_)
  refine r_al ty28 rfl (fun b6 => ?_)
  refine r_sb (vs := [s3.v, .int .i64 y2.1.Change, .int .i64 y2.1.Clap, .int .i64 y2.1.Break, .int .i64 y2.1.Half]) (j := 0) ty28 rfl rfl rfl rfl rfl rfl rfl ?_
  refine lp rfl (p_as rfl) ?_
  refine lj_seq ?_
  refine cj_seq ?_
  refine cj_reg ?_
  refine lp rfl (p_lbw ty28 rfl (j := 0) rfl rfl) ?_
  refine lp rfl (p_mv rfl) ?_
  obtain ⟨y7, hy7, hm⟩ := bindS hm
  refine r_call [] cf6 rfl rfl (ok_concert_Timetable y2.1 s3 xg4 y5.1 hy7) rfl rfl (.cons (.ro 3 rfl) (.cons (.row 2 rfl) .nil)) (fun _ => rfl) rfl (fun s8 => ?_)
  refine lp rfl (p_mv rfl) ?_
  refine lp rfl (p_ext rfl rfl) ?_
  refine lp rfl (p_ext rfl rfl) ?_
  refine lp rfl (p_as rfl) ?_
  refine lp rfl (p_as rfl) ?_
  refine lj_seq ?_
  refine cj_seq ?_
  refine cj_reg ?_
  refine lp rfl (p_lbw ty28 rfl (j := 1) rfl rfl) ?_
  obtain ⟨y9, hy9, hm⟩ := bindS hm
  refine r_call [] cf7 rfl rfl (ok_concert_Long y2.1 s3 xg4 hy9) rfl rfl (.cons (.ro 4 rfl) (.cons (.row 3 rfl) .nil)) (fun _ => rfl) rfl (fun _ => ?_)
  refine lp rfl (p_mv rfl) ?_
  refine lp rfl (p_ext rfl rfl) ?_
  refine lp rfl (p_ext rfl rfl) ?_
  refine lp rfl (p_as rfl) ?_
  refine lp rfl (p_as rfl) ?_
  refine lj_seq ?_
  refine cj_seq ?_
  refine cj_reg ?_
  refine lp rfl (p_lbw ty28 rfl (j := 1) rfl rfl) ?_
  obtain ⟨y10, hy10, hm⟩ := bindS hm
  refine r_call [] cf8 rfl rfl (ok_concert_Changes y2.1 s3 xg4 hy10) rfl rfl (.cons (.ro 4 rfl) (.cons (.row 3 rfl) .nil)) (fun _ => rfl) rfl (fun _ => ?_)
  refine lp rfl (p_mv rfl) ?_
  refine lp rfl (p_ext rfl rfl) ?_
  refine lp rfl (p_ext rfl rfl) ?_
  refine lp rfl (p_as rfl) ?_
  refine lp rfl (p_as rfl) ?_
  refine lj_seq ?_
  refine cj_seq ?_
  refine cj_seq ?_
  refine cj_reg ?_
  obtain ⟨k13, hk13, hm⟩ := bindS hm
  have hRk13 : ∀ t, k13 = .inr t → some t = some r := fun t e => by rw [e] at hm; exact hm
  refine lj_join (σ := Bool) (γ := Unit) (fun u11 => k13 = .inl u11) (fun u11 g12 => [(2, .bool false), (4, .pointer (some ⟨b6, 0, none⟩)), (5, .int .i64 y5.1), (6, s8.v), (8, .int .i64 y9.1), (10, .int .i64 y10.1), (53, .bool u11)]) (fun u11 g12 => Sat w0 (keys ([] : List Ent)) A [.row R41 (SV.v s8) y7.1, .box b6 28 [s3.v, .int .i64 y2.1.Change, .int .i64 y2.1.Clap, .int .i64 y2.1.Break, .int .i64 y2.1.Half], .row N44.R (SV.v s3) xg4, .ro (Lk N44 y2.1.Items xg4), .ro PowT]) (fun u11 g12 hq => ?_) (fun J cnk13 => ?_)
  · have hm := Sum.fin_l hq hm
    refine cj_if (b := u11) rfl (fun hb => ?_) (fun hb => ?_)
    · have hm := ifB_t hb hm
      refine cj_seq ?_
      refine cj_reg ?_
      refine lp rfl (p_as rfl) ?_
      refine lj_seq ?_
      obtain rfl := Option.some.inj hm
      exact cj_rt () [] Tryz.results3 (.tmp rfl .nil) rfl rfl
    · have hm := ifB_f hb hm
      refine cj_skip ?_
      refine nj_seq ?_
      refine cj_seq ?_
      refine cj_reg ?_
      refine lp rfl (p_as rfl) ?_
      refine lj_seq ?_
      refine cj_seq ?_
      refine cj_seq ?_
      refine cj_reg ?_
      refine lp rfl (p_mv rfl) ?_
      refine lp rfl (p_len Tryz.underlying31 rfl (.row 0 rfl)) ?_
      refine lp rfl (p_mv rfl) ?_
      refine lj_seq ?_
      obtain ⟨f22, hf22, hm⟩ := bindS hm
      refine cj_range (γ := Unit) (m := (y7.1.length : Int)) hf22 () (fun u19 g20 => [(2, .bool false), (4, .pointer (some ⟨b6, 0, none⟩)), (5, .int .i64 y5.1), (6, s8.v), (8, .int .i64 y9.1), (10, .int .i64 y10.1), (12, .int .i64 u19), (54, s8.v)]) (fun u19 g20 => Sat w0 (keys ([] : List Ent)) A [.row R41 (SV.v s8) y7.1, .box b6 28 [s3.v, .int .i64 y2.1.Change, .int .i64 y2.1.Clap, .int .i64 y2.1.Break, .int .i64 y2.1.Half], .row N44.R (SV.v s3) xg4, .ro (Lk N44 y2.1.Items xg4), .ro PowT]) ⟨rfl, rfl, rfl, rfl, rfl, rfl, rfl, rfl, rfl, rfl, trivial⟩ (fun _ h => h.picks [0, 0, 0, 0, 0] rfl) (nat_lt _) (fun _ h => (FactAt.get (F := RdS R41 (SV.v s8) y7.1) (.row 0 rfl) h).1) (fun _ _ => ⟨rfl, rfl, rfl, rfl⟩) ⟨rfl, rfl, rfl, rfl, rfl⟩ rfl rfl rfl (fun u19 g20 e => ?_) (fun aftk21 i16 x17 u19 g20 k21 hx18 hs J hJk21 hBk21 hX I cnk21 => ?_)
      · have hm := Flow.fin_b e hm
        refine nj_seq ?_
        refine cj_seq ?_
        refine cj_seq ?_
        refine cj_reg ?_
        obtain ⟨k31, hk31, hm⟩ := bindS hm
        have hRk31 : ∀ t, k31 = .inr t → some t = some r := fun t e => by rw [e] at hm; exact hm
        refine lj_join (σ := Bool) (γ := Unit) (fun u29 => k31 = .inl u29) (fun u29 g30 => [(2, .bool false), (10, .int .i64 y10.1), (12, .int .i64 u19), (148, .bool u29)]) (fun u29 g30 => Sat w0 (keys ([] : List Ent)) A [.ro PowT]) (fun u29 g30 hq => ?_) (fun J cnk31 => ?_)
        · have hm := Sum.fin_l hq hm
          refine cj_if (b := u29) rfl (fun hb => ?_) (fun hb => ?_)
          · have hm := ifB_t hb hm
            refine cj_seq ?_
            refine cj_reg ?_
            refine lp rfl (p_as rfl) ?_
            refine lj_seq ?_
            obtain rfl := Option.some.inj hm
            exact cj_rt () [] Tryz.results3 (.tmp rfl .nil) rfl rfl
          · have hm := ifB_f hb hm
            refine cj_skip ?_
            refine nj_seq ?_
            refine cj_seq ?_
            refine cj_reg ?_
            refine lp rfl (p_mv rfl) ?_
            refine lp rfl (p_mv rfl) ?_
            refine lp rfl (p_eql rfl rfl) ?_
            refine lp rfl (p_mv rfl) ?_
            refine lcase (i := 152) (u19 == y10.1) rfl (fun hb => ?_) (fun hb => ?_)
            · have hm := ifB_t hb hm
              refine lg true rfl rfl rfl ?_
              obtain ⟨y33, hy33, hm⟩ := bindS hm
              refine r_call [] cf10 rfl rfl (ok_gleekeep2_ready  hy33) rfl rfl (.cons (.ro 0 rfl) .nil) (fun _ => rfl) rfl (fun _ => ?_)
              refine lp rfl (p_pkt rfl rfl) ?_
              refine lp rfl (p_as rfl) ?_
              refine lj_seq ?_
              obtain rfl := Option.some.inj hm
              exact cj_rt () [] Tryz.results3 (.tmp rfl .nil) rfl rfl
            · have hm := ifB_f hb hm
              refine ls true rfl rfl rfl rfl ?_
              refine lp rfl (p_pkf rfl rfl) ?_
              refine lp rfl (p_as rfl) ?_
              refine lj_seq ?_
              obtain rfl := Option.some.inj hm
              exact cj_rt () [] Tryz.results3 (.tmp rfl .nil) rfl rfl
        · have hm := hk31
          refine lp rfl (p_mv rfl) ?_
          refine lp rfl (p_len Tryz.underlying31 rfl (.row 0 rfl)) ?_
          refine lp rfl (p_gtr rfl rfl) ?_
          refine lp rfl (p_mv rfl) ?_
          refine lcase (i := 135) (decide ((y7.1.length : Int) > 0)) rfl (fun hb => ?_) (fun hb => ?_)
          · have hm := ifB_t hb hm
            refine lg true rfl rfl rfl ?_
            refine lp rfl (p_mv rfl) ?_
            refine lg true rfl rfl rfl ?_
            refine lp rfl (p_mv rfl) ?_
            refine lg true rfl rfl rfl ?_
            refine lp rfl (p_len Tryz.underlying31 rfl (.row 0 rfl)) ?_
            refine lg true rfl rfl rfl ?_
            refine lp rfl (p_sub rfl rfl) ?_
            refine lg true rfl rfl rfl ?_
            obtain ⟨e32, he32, hm⟩ := bindS hm
            refine lp rfl (p_idx Tryz.underlying31 ty41 rfl rfl (.row 0 rfl) he32) ?_
            refine lg true rfl rfl rfl ?_
            refine lp rfl (p_fae fl41_1 rfl (.row 0 rfl) (getI_spec he32).2) ?_
            refine lg true rfl rfl rfl ?_
            refine lp rfl (p_fae fl39_1 rfl (.row 0 rfl) (getI_spec he32).2) ?_
            refine lg true rfl rfl rfl ?_
            refine lp rfl (p_lde (o := 2) ty3 rfl rfl (.row 0 rfl) (getI_spec he32).2 rfl) ?_
            refine lg true rfl rfl rfl ?_
            refine lp rfl (p_mv rfl) ?_
            refine lg true rfl rfl rfl ?_
            refine lp rfl (p_mv rfl) ?_
            refine lg true rfl rfl rfl ?_
            refine lp rfl (p_add rfl rfl) ?_
            refine lg true rfl rfl rfl ?_
            refine lp rfl (p_neq rfl rfl) ?_
            refine lp rfl (p_pkt rfl rfl) ?_
            refine lj_nil ?_
            exact cnk31 _ _ (e32.Time.To != (w64 (y5.1 + y9.1))) () (Option.some.inj hm).symm ⟨rfl, rfl, rfl, rfl, trivial⟩ (fun _ h => h.picks [4] rfl)
          · have hm := ifB_f hb hm
            refine ls true rfl rfl rfl rfl ?_
            refine ls true rfl rfl rfl rfl ?_
            refine ls true rfl rfl rfl rfl ?_
            refine ls true rfl rfl rfl rfl ?_
            refine ls true rfl rfl rfl rfl ?_
            refine ls true rfl rfl rfl rfl ?_
            refine ls true rfl rfl rfl rfl ?_
            refine ls true rfl rfl rfl rfl ?_
            refine ls true rfl rfl rfl rfl ?_
            refine ls true rfl rfl rfl rfl ?_
            refine ls true rfl rfl rfl rfl ?_
            refine ls true rfl rfl rfl rfl ?_
            refine lp rfl (p_pkf rfl rfl) ?_
            refine lj_nil ?_
            exact cnk31 _ _ false () (Option.some.inj hm).symm ⟨rfl, rfl, rfl, rfl, trivial⟩ (fun _ h => h.picks [4] rfl)
      · have hRk21 : ∀ t, k21 = .ret t → some t = some r := fun t e => by rw [hX t e] at hm; exact hm
        have hm := hs
        refine cj_seq ?_
        refine cj_reg ?_
        refine lp rfl (p_mv rfl) ?_
        refine lp rfl (p_idx Tryz.underlying31 ty41 rfl rfl (.row 0 rfl) (getI_nat.trans hx18)) ?_
        refine lp rfl (p_lea ty41 rfl (.row 0 rfl) hx18) ?_
        refine r_al ty41 rfl (fun b23 => ?_)
        refine lp rfl (p_as rfl) ?_
        refine r_sb (vs := [.string x17.Key, .int .i64 x17.Time.From, .int .i64 x17.Time.To]) (j := 0) ty41 rfl rfl rfl rfl rfl rfl rfl ?_
        refine lj_seq ?_
        refine cj_seq ?_
        refine cj_seq ?_
        refine cj_quiet (by kernel_rfl) (by kernel_rfl) ?_
        refine q_p rfl (p_fab fl41_1 rfl) ?_
        refine q_p rfl (p_fab fl39_1 rfl) ?_
        refine q_p rfl (p_lbs ty3 rfl (j := 0) rfl rfl) ?_
        refine q_p rfl (p_fab fl41_1 rfl) ?_
        refine q_p rfl (p_fab fl39_0 rfl) ?_
        refine q_p rfl (p_lbs ty3 rfl (j := 0) rfl rfl) ?_
        refine q_p rfl (p_sub rfl rfl) ?_
        refine q_p rfl (p_fab fl28_0 rfl) ?_
        refine q_p rfl (p_lbs ty26 rfl (j := 2) rfl rfl) ?_
        refine q_p rfl (p_mv rfl) ?_
        obtain ⟨e24, he24, hm⟩ := bindS hm
        obtain ⟨ge24, he24G⟩ := lk_getI hLs3 he24
        refine q_p rfl (p_idx Tryz.underlying26 ty44 rfl rfl (.row 3 rfl) he24G) ?_
        refine q_p rfl (p_fae fl44_2 rfl (.row 3 rfl) (getI_spec he24G).2) ?_
        refine q_p rfl (p_lde (o := 2) ty3 rfl rfl (.row 3 rfl) (getI_spec he24G).2 rfl) ?_
        refine q_p rfl (p_neq rfl rfl) ?_
        refine q_p rfl (p_mv rfl) ?_
        refine q_case (i := 75) ((w64 (x17.Time.To - x17.Time.From)) != e24.Long) rfl (fun hb => ?_) (fun hb => ?_)
        · have hm := ifB_t hb hm
          refine q_s false rfl rfl rfl rfl ?_
          refine q_s false rfl rfl rfl rfl ?_
          refine q_s false rfl rfl rfl rfl ?_
          refine q_s false rfl rfl rfl rfl ?_
          refine q_s false rfl rfl rfl rfl ?_
          refine q_s false rfl rfl rfl rfl ?_
          refine q_s false rfl rfl rfl rfl ?_
          refine q_s false rfl rfl rfl rfl ?_
          refine q_s false rfl rfl rfl rfl ?_
          refine q_p rfl (p_pkt rfl rfl) ?_
          refine q_nil ?_
          refine nj_seq ?_
          refine cj_if_t rfl ?_
          refine cj_seq ?_
          refine cj_reg ?_
          refine lp rfl (p_as rfl) ?_
          refine lj_seq ?_
          have hm := hRk21 _ (Option.some.inj hm).symm
          obtain rfl := Option.some.inj hm
          exact cj_rt () [] Tryz.results3 (.tmp rfl .nil) rfl rfl
        · have hm := ifB_f hb hm
          refine q_g false rfl rfl rfl ?_
          refine q_p rfl (p_fab fl41_0 rfl) ?_
          refine q_g false rfl rfl rfl ?_
          refine q_p rfl (p_lbs ty9 rfl (j := 0) rfl rfl) ?_
          refine q_g false rfl rfl rfl ?_
          refine q_p rfl (p_fab fl28_0 rfl) ?_
          refine q_g false rfl rfl rfl ?_
          refine q_p rfl (p_lbs ty26 rfl (j := 2) rfl rfl) ?_
          refine q_g false rfl rfl rfl ?_
          refine q_p rfl (p_mv rfl) ?_
          refine q_g false rfl rfl rfl ?_
          obtain ⟨e25, he25, hm⟩ := bindS hm
          obtain ⟨ge25, he25G⟩ := lk_getI hLs3 he25
          refine q_p rfl (p_idx Tryz.underlying26 ty44 rfl rfl (.row 3 rfl) he25G) ?_
          refine q_g false rfl rfl rfl ?_
          refine q_p rfl (p_fae fl44_0 rfl (.row 3 rfl) (getI_spec he25G).2) ?_
          refine q_g false rfl rfl rfl ?_
          refine q_p rfl (p_lde (o := 0) ty9 rfl rfl (.row 3 rfl) (getI_spec he25G).2 rfl) ?_
          refine q_g false rfl rfl rfl ?_
          refine q_p rfl (p_nes rfl rfl) ?_
          refine q_p rfl (p_pkf rfl rfl) ?_
          refine q_nil ?_
          refine nj_seq ?_
          refine cj_if (b := !(x17.Key.toList == e25.Key.toList)) rfl (fun hb => ?_) (fun hb => ?_)
          · have hm := ifB_t hb hm
            refine cj_seq ?_
            refine cj_reg ?_
            refine lp rfl (p_as rfl) ?_
            refine lj_seq ?_
            have hm := hRk21 _ (Option.some.inj hm).symm
            obtain rfl := Option.some.inj hm
            exact cj_rt () [] Tryz.results3 (.tmp rfl .nil) rfl rfl
          · have hm := ifB_f hb hm
            refine cj_skip ?_
            refine nj_seq ?_
            refine cj_seq ?_
            refine cj_seq ?_
            refine cj_reg ?_
            refine lp rfl (p_mv rfl) ?_
            refine lp rfl (p_eql rfl rfl) ?_
            refine lj_seq ?_
            refine cj_if (b := (i16 : Int) == 0) rfl (fun hb => ?_) (fun hb => ?_)
            · have hm := ifB_t hb hm
              refine cj_exit rfl ?_
              exact cnk21 _ _ u19 () (hJk21 _ (Option.some.inj hm).symm) ⟨rfl, rfl, rfl, rfl, rfl, rfl, rfl, rfl, rfl, rfl, trivial⟩ (fun _ h => h.picks [1, 1, 1, 1, 1] rfl)
            · have hm := ifB_f hb hm
              refine cj_skip ?_
              refine nj_seq ?_
              refine cj_seq ?_
              refine cj_quiet (by kernel_rfl) (by kernel_rfl) ?_
              refine q_p rfl (p_fab fl41_1 rfl) ?_
              refine q_p rfl (p_fab fl39_0 rfl) ?_
              refine q_p rfl (p_lbs ty3 rfl (j := 0) rfl rfl) ?_
              refine q_p rfl (p_mv rfl) ?_
              refine q_p rfl (p_mv rfl) ?_
              refine q_p rfl (p_sub rfl rfl) ?_
              obtain ⟨e26, he26, hm⟩ := bindS hm
              refine q_p rfl (p_idx Tryz.underlying31 ty41 rfl rfl (.row 1 rfl) he26) ?_
              refine q_p rfl (p_fae fl41_1 rfl (.row 1 rfl) (getI_spec he26).2) ?_
              refine q_p rfl (p_fae fl39_1 rfl (.row 1 rfl) (getI_spec he26).2) ?_
              refine q_p rfl (p_lde (o := 2) ty3 rfl rfl (.row 1 rfl) (getI_spec he26).2 rfl) ?_
              refine q_p rfl (p_sub rfl rfl) ?_
              refine q_p rfl (p_fab fl28_2 rfl) ?_
              refine q_p rfl (p_lbs ty3 rfl (j := 2) rfl rfl) ?_
              refine q_p rfl (p_as rfl) ?_
              refine q_p rfl (p_as rfl) ?_
              refine q_nil ?_
              refine nj_seq ?_
              refine cj_seq ?_
              refine cj_blk ?_
              refine cj_seq ?_
              refine cj_reg ?_
              refine lp rfl (p_mv rfl) ?_
              refine lp rfl (p_sub rfl rfl) ?_
              refine lp rfl (p_fab fl28_4 rfl) ?_
              refine lp rfl (p_lbs ty3 rfl (j := 2) rfl rfl) ?_
              refine lp rfl (p_eql rfl rfl) ?_
              refine lp rfl (p_as rfl) ?_
              refine lj_seq ?_
              refine cj_if (b := (w64 ((i16 : Int) - 1)) == y2.1.Half) rfl (fun hb => ?_) (fun hb => ?_)
              · have hm := ifB_t hb hm
                refine cj_reg ?_
                refine lp rfl (p_fab fl28_3 rfl) ?_
                refine lp rfl (p_lbs ty3 rfl (j := 2) rfl rfl) ?_
                refine lp rfl (p_as rfl) ?_
                refine lj_nil ?_
                refine nj_blk ?_
                refine nj_seq ?_
                refine cj_seq ?_
                refine cj_reg ?_
                refine lp rfl (p_mv rfl) ?_
                refine lp rfl (p_mv rfl) ?_
                refine lp rfl (p_neq rfl rfl) ?_
                refine lj_seq ?_
                refine cj_if (b := (w64 (x17.Time.From - e26.Time.To)) != y2.1.Break) rfl (fun hb => ?_) (fun hb => ?_)
                · have hm := ifB_t hb hm
                  refine cj_seq ?_
                  refine cj_reg ?_
                  refine lp rfl (p_as rfl) ?_
                  refine lj_seq ?_
                  have hm := hRk21 _ (Option.some.inj hm).symm
                  obtain rfl := Option.some.inj hm
                  exact cj_rt () [] Tryz.results3 (.tmp rfl .nil) rfl rfl
                · have hm := ifB_f hb hm
                  refine cj_skip ?_
                  refine nj_blk ?_
                  exact cnk21 _ _ u19 () (hJk21 _ (Option.some.inj hm).symm) ⟨rfl, rfl, rfl, rfl, rfl, rfl, rfl, rfl, rfl, rfl, trivial⟩ (fun _ h => h.picks [1, 1, 1, 1, 1] rfl)
              · have hm := ifB_f hb hm
                refine cj_seq ?_
                refine cj_quiet (by kernel_rfl) (by kernel_rfl) ?_
                refine q_p rfl (p_fab fl28_0 rfl) ?_
                refine q_p rfl (p_lbs ty26 rfl (j := 2) rfl rfl) ?_
                refine q_p rfl (p_mv rfl) ?_
                obtain ⟨e27, he27, hm⟩ := bindS hm
                obtain ⟨ge27, he27G⟩ := lk_getI hLs3 he27
                refine q_p rfl (p_idx Tryz.underlying26 ty44 rfl rfl (.row 3 rfl) he27G) ?_
                refine q_p rfl (p_fae fl44_1 rfl (.row 3 rfl) (getI_spec he27G).2) ?_
                refine q_p rfl (p_lde (o := 1) ty9 rfl rfl (.row 3 rfl) (getI_spec he27G).2 rfl) ?_
                refine q_p rfl (p_fab fl28_0 rfl) ?_
                refine q_p rfl (p_lbs ty26 rfl (j := 2) rfl rfl) ?_
                refine q_p rfl (p_mv rfl) ?_
                refine q_p rfl (p_sub rfl rfl) ?_
                obtain ⟨e28, he28, hm⟩ := bindS hm
                obtain ⟨ge28, he28G⟩ := lk_getI hLs3 he28
                refine q_p rfl (p_idx Tryz.underlying26 ty44 rfl rfl (.row 3 rfl) he28G) ?_
                refine q_p rfl (p_fae fl44_1 rfl (.row 3 rfl) (getI_spec he28G).2) ?_
                refine q_p rfl (p_lde (o := 1) ty9 rfl rfl (.row 3 rfl) (getI_spec he28G).2 rfl) ?_
                refine q_p rfl (p_nes rfl rfl) ?_
                refine q_p rfl (p_as rfl) ?_
                refine q_nil ?_
                refine nj_seq ?_
                refine cj_if (b := !(e27.Places.toList == e28.Places.toList)) rfl (fun hb => ?_) (fun hb => ?_)
                · have hm := ifB_t hb hm
                  refine cj_seq ?_
                  refine cj_reg ?_
                  refine lp rfl (p_fab fl28_1 rfl) ?_
                  refine lp rfl (p_lbs ty3 rfl (j := 2) rfl rfl) ?_
                  refine lp rfl (p_as rfl) ?_
                  refine lj_seq ?_
                  refine cj_reg ?_
                  refine lp rfl (p_mv rfl) ?_
                  refine lp rfl (p_add rfl rfl) ?_
                  refine lp rfl (p_as rfl) ?_
                  refine lj_nil ?_
                  refine nj_blk ?_
                  refine nj_seq ?_
                  refine cj_seq ?_
                  refine cj_reg ?_
                  refine lp rfl (p_mv rfl) ?_
                  refine lp rfl (p_mv rfl) ?_
                  refine lp rfl (p_neq rfl rfl) ?_
                  refine lj_seq ?_
                  refine cj_if (b := (w64 (x17.Time.From - e26.Time.To)) != y2.1.Change) rfl (fun hb => ?_) (fun hb => ?_)
                  · have hm := ifB_t hb hm
                    refine cj_seq ?_
                    refine cj_reg ?_
                    refine lp rfl (p_as rfl) ?_
                    refine lj_seq ?_
                    have hm := hRk21 _ (Option.some.inj hm).symm
                    obtain rfl := Option.some.inj hm
                    exact cj_rt () [] Tryz.results3 (.tmp rfl .nil) rfl rfl
                  · have hm := ifB_f hb hm
                    refine cj_skip ?_
                    refine nj_blk ?_
                    exact cnk21 _ _ (w64 (u19 + 1)) () (hJk21 _ (Option.some.inj hm).symm) ⟨rfl, rfl, rfl, rfl, rfl, rfl, rfl, rfl, rfl, rfl, trivial⟩ (fun _ h => h.picks [1, 1, 1, 1, 1] rfl)
                · have hm := ifB_f hb hm
                  refine cj_skip ?_
                  refine nj_blk ?_
                  refine nj_seq ?_
                  refine cj_seq ?_
                  refine cj_reg ?_
                  refine lp rfl (p_mv rfl) ?_
                  refine lp rfl (p_mv rfl) ?_
                  refine lp rfl (p_neq rfl rfl) ?_
                  refine lj_seq ?_
                  refine cj_if (b := (w64 (x17.Time.From - e26.Time.To)) != y2.1.Clap) rfl (fun hb => ?_) (fun hb => ?_)
                  · have hm := ifB_t hb hm
                    refine cj_seq ?_
                    refine cj_reg ?_
                    refine lp rfl (p_as rfl) ?_
                    refine lj_seq ?_
                    have hm := hRk21 _ (Option.some.inj hm).symm
                    obtain rfl := Option.some.inj hm
                    exact cj_rt () [] Tryz.results3 (.tmp rfl .nil) rfl rfl
                  · have hm := ifB_f hb hm
                    refine cj_skip ?_
                    refine nj_blk ?_
                    exact cnk21 _ _ u19 () (hJk21 _ (Option.some.inj hm).symm) ⟨rfl, rfl, rfl, rfl, rfl, rfl, rfl, rfl, rfl, rfl, trivial⟩ (fun _ h => h.picks [1, 1, 1, 1, 1] rfl)
  · have hm := hk13
    refine lp rfl (p_mv rfl) ?_
    refine lp rfl (p_mv rfl) ?_
    refine lp rfl (p_mv rfl) ?_
    refine r_bs R32 [y7.2, y9.2, y10.2] rfl rfl rfl (fun _ => by kernel_rfl) rfl (fun s14 => ?_)
    obtain ⟨y15, hy15, hm⟩ := bindS hm
    refine r_call [] cf9 rfl rfl (ok_gleekeep2_errs s14 [y7.2, y9.2, y10.2] hy15) rfl rfl (.cons (.row 0 rfl) .nil) (fun _ => rfl) rfl (fun _ => ?_)
    refine lp rfl (p_neq rfl rfl) ?_
    refine lp rfl (p_mv rfl) ?_
    refine lcase (i := 46) (y15 != 0) rfl (fun hb => ?_) (fun hb => ?_)
    · have hm := ifB_t hb hm
      refine ls false rfl rfl rfl rfl ?_
      refine ls false rfl rfl rfl rfl ?_
      refine ls false rfl rfl rfl rfl ?_
      refine ls false rfl rfl rfl rfl ?_
      refine ls false rfl rfl rfl rfl ?_
      refine ls false rfl rfl rfl rfl ?_
      refine lp rfl (p_pkt rfl rfl) ?_
      refine lj_nil ?_
      exact cnk13 _ _ true () (Option.some.inj hm).symm ⟨rfl, rfl, rfl, rfl, rfl, rfl, rfl, trivial⟩ (fun _ h => h.picks [1, 1, 2, 2, 3] rfl)
    · have hm := ifB_f hb hm
      refine lg false rfl rfl rfl ?_
      refine lp rfl (p_mv rfl) ?_
      refine lg false rfl rfl rfl ?_
      refine lp rfl (p_len Tryz.underlying31 rfl (.row 1 rfl)) ?_
      refine lg false rfl rfl rfl ?_
      refine lp rfl (p_fab fl28_0 rfl) ?_
      refine lg false rfl rfl rfl ?_
      refine lp rfl (p_lbs ty26 rfl (j := 2) rfl rfl) ?_
      refine lg false rfl rfl rfl ?_
      refine lp rfl (p_lenG hLs3 Tryz.underlying26 rfl (.row 4 rfl)) ?_
      refine lg false rfl rfl rfl ?_
      refine lp rfl (p_neq rfl rfl) ?_
      refine lp rfl (p_pkf rfl rfl) ?_
      refine lj_nil ?_
      exact cnk13 _ _ ((y7.1.length : Int) != (y2.1.Items.length : Int)) () (Option.some.inj hm).symm ⟨rfl, rfl, rfl, rfl, rfl, rfl, rfl, trivial⟩ (fun _ h => h.picks [1, 1, 2, 2, 3] rfl)
end Go.Proofs.YtdeoejkgmeemaaaGreatDoor
