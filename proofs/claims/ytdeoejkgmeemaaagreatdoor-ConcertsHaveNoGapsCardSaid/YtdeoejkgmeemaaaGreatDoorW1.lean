/- The walks. Written by program. -/
import Derived.Test.YtdeoejkgmeemaaaGreatDoorW
namespace Go.Proofs.YtdeoejkgmeemaaaGreatDoor
open Go Go.J Go.G
set_option maxRecDepth 100000
set_option linter.unusedVariables false
set_option linter.unusedSimpArgs false
theorem ok_rehearse_presences (s0_ : SV) (a0 : (List TCame)) {r : (List (ByteArray × (List TWindow)))} (hm : m_rehearse_presences a0 = some r) :
    Ctr Tryz.prog 34 [s0_.v].toArray ([] : List Ent) [RdS R68 (SV.v s0_) a0] (X := (Nat × List (ByteArray × SV) × Array MapEntry × Nat)) (fun s => .map (some s.1)) (fun s => [.obj (famO kv9 SV.v (rowE R39) s.1 r s.2.1 none s.2.2.1 s.2.2.2)]) := by
  unfold m_rehearse_presences at hm
  refine ctr_mk (vs := [(0, s0_.v)]) Tryz.func34 rfl Tryz.ntmps34 rfl ⟨rfl, trivial⟩ (fun w0 A => ?_)
  refine cj_seq ?_
  refine cj_reg ?_
  refine lp rfl (p_as rfl) ?_
  refine lj_seq ?_
  refine cj_seq ?_
  refine cj_reg ?_
  refine r_mkmapF kv9 SV.v (rowE R39) rfl (fun b1 => ?_)
  refine lp rfl (p_as rfl) ?_
  refine lj_seq ?_
  refine cj_seq ?_
  refine cj_reg ?_
  refine r_mkmap kv9 vv3 rfl (fun b2 => ?_)
  refine lp rfl (p_as rfl) ?_
  refine lj_seq ?_
  refine cj_seq ?_
  refine cj_seq ?_
  refine cj_reg ?_
  refine lp rfl (p_mv rfl) ?_
  refine lp rfl (p_len Tryz.underlying69 rfl (.ro 2 rfl)) ?_
  refine lp rfl (p_mv rfl) ?_
  refine lj_seq ?_
  obtain ⟨f9, hf9, hm⟩ := bindS hm
  refine cj_range (γ := (Array MapEntry × Nat × List (ByteArray × SV) × Array MapEntry × Nat)) (m := (a0.length : Int)) hf9 (#[], 0, [], #[], 0) (fun u6 g7 => [(2, .map none), (3, .map (some b1)), (4, .map (some b2)), (15, s0_.v)]) (fun u6 g7 => Sat w0 (keys ([] : List Ent)) A [.obj (mapO kv9 b2 (mpV vv3 u6.1) g7.1 g7.2.1), .obj (famO kv9 SV.v (rowE R39) b1 u6.2 g7.2.2.1 none g7.2.2.2.1 g7.2.2.2.2), .ro (RdS R68 (SV.v s0_) a0)]) ⟨rfl, rfl, rfl, rfl, rfl, rfl, trivial⟩ (fun _ h => h.picks [0, 0, 0] rfl) (nat_lt _) (fun _ h => (FactAt.get (F := RdS R68 (SV.v s0_) a0) (.ro 2 rfl) h).1) (fun _ _ => ⟨rfl, rfl, rfl, rfl⟩) ⟨rfl, rfl, rfl, rfl, rfl⟩ rfl rfl rfl (fun u6 g7 e => ?_) (fun aftk8 i3 x4 u6 g7 k8 hx5 hs J hJk8 hBk8 hX I cnk8 => ?_)
  · have hm := Flow.fin_b e hm
    refine nj_seq ?_
    refine cj_seq ?_
    refine cj_seq ?_
    refine cj_reg ?_
    refine lp rfl (p_mv rfl) ?_
    refine r_rng (vv := vv3) Tryz.underlying108 (.map 0 rfl) rfl rfl (fun b31 hrb32 => ?_)
    refine lj_seq ?_
    have hsq := anyOrd_spec hm
    refine cj_mrange (γ := (List (ByteArray × SV) × Array MapEntry × Nat)) (fun L hL => hsq L hL) hrb32 (g7.2.2.1, g7.2.2.2.1, g7.2.2.2.2) (fun u38 g39 => [(2, .map none), (3, .map (some b1))]) (fun u38 g39 => [.obj (mapO kv9 b2 (mpV vv3 u6.1) g7.1 g7.2.1), .obj (famO kv9 SV.v (rowE R39) b1 u38 g39.1 none g39.2.1 g39.2.2)]) ⟨rfl, rfl, rfl, trivial⟩ (fun _ h => h.picks [0, 0, 0] rfl) (fun _ _ => (.map 0 rfl)) (fun _ _ => ⟨rfl, rfl, rfl⟩) ⟨rfl, rfl, rfl⟩ rfl rfl (fun u38 g39 e => ?_) (fun aftk40 i33 x34 u38 g39 idx37 ix36 k40 hx35 hs J hJk40 hBk40 hX I cnk40 => ?_)
    · have hm := Flow.fin_b (f := .brk u38) rfl e
      refine nj_seq ?_
      refine cj_seq ?_
      refine cj_seq ?_
      refine cj_reg ?_
      refine lp rfl (p_mv rfl) ?_
      refine r_rng (vv := SV.v) Tryz.underlying84 (.imp (.fam 1 rfl) (fun _ h => h.map)) rfl rfl (fun b48 hrb49 => ?_)
      refine lj_seq ?_
      refine cj_pure (F := FamAt kv9 SV.v (rowE R39) b1 u38 g39.1 none g39.2.1 g39.2.2) (.fam 2 rfl) (fun _ h => h.kys) (fun hky55 => ?_)
      refine cj_fact (F := fun _ => KeptK (u38.map Prod.fst) g39.2.1 g39.2.2 g39.1 g39.2.1 g39.2.2) (.tru (KeptK.refl _ hky55)) ?_
      have hsq := anyOrd_spec hm
      refine cj_frange (γ := (List (ByteArray × SV) × Array MapEntry × Nat)) (vv := SV.v) (fun u57 g58 => g58.1) (fun u57 g58 => g58.2.1) (fun u57 g58 => g58.2.2) (fun L hL => hsq L hL) hrb49 (g39.1, g39.2.1, g39.2.2) (fun u57 g58 => [(2, .map none), (3, .map (some b1))]) (fun u57 g58 => [.ro (fun _ => KeptK (u38.map Prod.fst) g39.2.1 g39.2.2 g58.1 g58.2.1 g58.2.2), .obj (mapO kv9 b2 (mpV vv3 u6.1) g7.1 g7.2.1), .obj (famO kv9 SV.v (rowE R39) b1 u57 g58.1 none g58.2.1 g58.2.2)]) ⟨rfl, rfl, rfl, trivial⟩ (fun _ h => h.picks [1, 0, 0, 0] rfl) (fun _ _ => .and (.imp (.fam 2 rfl) (fun _ h => h.map)) (.ro 0 rfl)) (fun _ _ => ⟨rfl, rfl, rfl⟩) ⟨rfl, rfl, rfl⟩ rfl rfl (fun u57 g58 e => ?_) (fun aftk59 i50 x51 u57 g58 idx54 ix53 k59 hx52 hs J hJk59 hBk59 hX I cnk59 => ?_)
      · have hm := Flow.fin_b (f := .brk u57) rfl e
        refine NJ.sat (fun _ h => h.picks [1, 1] rfl) ?_
        refine nj_seq ?_
        refine cj_seq ?_
        refine cj_reg ?_
        refine lp rfl (p_mv rfl) ?_
        refine lp rfl (p_as rfl) ?_
        refine lj_seq ?_
        obtain rfl := Option.some.inj hm
        exact cj_rt (b1, g58.1, g58.2.1, g58.2.2) [1] Tryz.results34 (.tmp rfl .nil) rfl rfl
      · have hRk59 : ∀ t, k59 = .ret t → some t = some r := fun t e => hX t e
        have hm := hs
        refine cj_pure (F := fun _ => KeptK (u38.map Prod.fst) g39.2.1 g39.2.2 g58.1 g58.2.1 g58.2.2) (.ro 1 rfl) (fun _ h => h) (fun hkp61 => ?_)
        refine cj_seq ?_
        refine cj_reg ?_
        refine lp rfl (p_entF (n := 0) (k := x51) (z := nilS) (.fam 3 rfl) hkp61 rfl hx52 rfl) ?_
        refine lp rfl (p_ext rfl rfl) ?_
        refine lp rfl (p_ext rfl rfl) ?_
        refine lp rfl (p_as rfl) ?_
        refine lp rfl (p_as rfl) ?_
        refine lj_seq ?_
        refine cj_reg ?_
        refine lp rfl (p_mv rfl) ?_
        refine lp rfl (p_mv rfl) ?_
        refine lp rfl (p_mv rfl) ?_
        obtain ⟨y62, hy62, hm⟩ := bindS hm
        refine r_call [] cf54 rfl rfl (ok_rehearse_joined ((lkM g58.1 x51).getD nilS) ((lkM u57 x51).getD []) hy62) rfl rfl (.cons (.imp (.fam 3 rfl) (fun _ h => h.look x51)) .nil) (fun _ => rfl) rfl (fun s63 => ?_)
        refine r_mpuK (x1 := y62) (g1 := s63) (k := x51) [4, 0] Tryz.underlying84 keyF9 rfl (.inl rfl) (KeptK.has hkp61 hx52) hkp61 rfl rfl rfl (fun es64 hkp66 => ?_)
        refine r_fact (F := fun _ => KeptK (u38.map Prod.fst) g39.2.1 g39.2.2 (putM g58.1 x51 s63) es64 g58.2.2) (.tru hkp66) ?_
        refine lj_nil ?_
        refine nj_blk ?_
        exact cnk59 _ _ (putM u57 x51 y62) (putM g58.1 x51 s63, es64, g58.2.2) (hJk59 _ (Option.some.inj hm).symm) ⟨rfl, rfl, rfl, trivial⟩ (fun _ h => h.picks [2, 0, 2, 0] rfl)
    · have hRk40 : ∀ t, k40 = .ret t → some t = some r := fun t e => hX t e
      have hm := hs
      refine cj_seq ?_
      refine cj_reg ?_
      refine lp rfl (p_ent (kk := x34.1) (v := x34.2) (vv := vv3) (k := 0) (.map 1 rfl) rfl hx35 rfl) ?_
      refine lp rfl (p_ext rfl rfl) ?_
      refine lp rfl (p_ext rfl rfl) ?_
      refine lp rfl (p_as rfl) ?_
      refine lp rfl (p_as rfl) ?_
      refine lj_seq ?_
      refine cj_reg ?_
      refine lp rfl (p_mv rfl) ?_
      refine lp rfl (p_mv rfl) ?_
      refine lp rfl (p_mv rfl) ?_
      refine lp rfl (p_mv rfl) ?_
      refine lp rfl (p_lkm (vv := SV.v) (k := x34.1) (z := nilS) Tryz.underlying84 (keyF9) (fun _ => by kernel_rfl) (.imp (.fam 2 rfl) (fun _ h => h.map)) rfl rfl) ?_
      refine lp rfl (p_mv rfl) ?_
      refine lp rfl (p_bld [.int .i64 x34.2, .int .i64 345686400000] rfl (fun _ => by kernel_rfl)) ?_
      refine r_bs R39 [(TWindow.mk x34.2 345686400000)] rfl rfl rfl (fun _ => by kernel_rfl) rfl (fun s42 => ?_)
      refine LJ.sat (fun _ h => h.takeR 3 rfl x34.1) ?_
      obtain ⟨q44, hq44, hm⟩ := bindS hm
      refine r_app (k := 0) Tryz.underlying86 ty39 rfl rfl rfl rfl (.row 2 rfl) hq44 rfl (fun s45 => ?_)
      refine r_mpuF (x1 := q44) (g1 := s45) (k := x34.1) [1, 0] Tryz.underlying84 keyF9 rfl (.inr rfl) rfl rfl rfl (fun es46 cl47 => ?_)
      refine lj_nil ?_
      refine nj_blk ?_
      exact cnk40 _ _ (putM u38 x34.1 q44) (putM g39.1 x34.1 s45, es46, cl47) (hJk40 _ (Option.some.inj hm).symm) ⟨rfl, rfl, rfl, trivial⟩ (fun _ h => h.picks [2, 2, 0] rfl)
  · have hRk8 : ∀ t, k8 = .ret t → some t = some r := fun t e => by rw [hX t e] at hm; exact hm
    have hm := hs
    refine cj_seq ?_
    refine cj_reg ?_
    refine lp rfl (p_idx Tryz.underlying69 ty68 rfl rfl (.ro 2 rfl) (getI_nat.trans hx5)) ?_
    refine lp rfl (p_lea ty68 rfl (.ro 2 rfl) hx5) ?_
    refine r_al ty68 rfl (fun b10 => ?_)
    refine r_sb (vs := [.int .i64 x4.At, .string x4.Singer, .bool x4.Left]) (j := 0) ty68 rfl rfl rfl rfl rfl rfl rfl ?_
    refine lj_seq ?_
    refine cj_seq ?_
    refine cj_reg ?_
    refine lp rfl (p_mv rfl) ?_
    refine lp rfl (p_fab fl68_1 rfl) ?_
    refine lp rfl (p_lbs ty9 rfl (j := 0) rfl rfl) ?_
    refine lp rfl (p_lko (vv := vv3) (k := x4.Singer) (z := 0) Tryz.underlying108 (keyF9) (fun _ => by kernel_rfl) (.map 1 rfl) rfl rfl) ?_
    refine lp rfl (p_mv rfl) ?_
    refine lp rfl (p_ext rfl rfl) ?_
    refine lp rfl (p_ext rfl rfl) ?_
    refine lp rfl (p_as rfl) ?_
    refine lp rfl (p_as rfl) ?_
    refine lj_seq ?_
    refine cj_blk ?_
    refine cj_seq ?_
    refine cj_reg ?_
    obtain ⟨k13, hk13, hm⟩ := bindS hm
    have hRk13 : ∀ t, k13 = .inr t → some t = some k8 := fun t e => by rw [e] at hm; exact hm
    refine lj_join (σ := Bool) (γ := Unit) (fun u11 => k13 = .inl u11) (fun u11 g12 => [(2, .map none), (3, .map (some b1)), (4, .map (some b2)), (6, .pointer (some ⟨b10, 0, none⟩)), (7, .int .i64 ((lkM u6.1 x4.Singer).getD 0)), (8, .bool (hasM u6.1 x4.Singer)), (15, s0_.v), (16, .int .i64 (a0.length : Int)), (17, .int .i64 (i3 : Int)), (28, .bool u11)]) (fun u11 g12 => Sat w0 (keys ([] : List Ent)) A [.box b10 68 [.int .i64 x4.At, .string x4.Singer, .bool x4.Left], .obj (mapO kv9 b2 (mpV vv3 u6.1) g7.1 g7.2.1), .obj (famO kv9 SV.v (rowE R39) b1 u6.2 g7.2.2.1 none g7.2.2.2.1 g7.2.2.2.2), .ro (RdS R68 (SV.v s0_) a0)]) (fun u11 g12 hq => ?_) (fun J cnk13 => ?_)
    · have hm := Sum.fin_l hq hm
      refine cj_if (b := u11) rfl (fun hb => ?_) (fun hb => ?_)
      · have hm := ifB_t hb hm
        refine cj_reg ?_
        refine lp rfl (p_mv rfl) ?_
        refine lp rfl (p_fab fl68_1 rfl) ?_
        refine lp rfl (p_lbs ty9 rfl (j := 0) rfl rfl) ?_
        refine lp rfl (p_fab fl68_0 rfl) ?_
        refine lp rfl (p_lbs ty3 rfl (j := 0) rfl rfl) ?_
        refine r_mpu (j := 1) (vv := vv3) (k := x4.Singer) (v := x4.At) Tryz.underlying108 keyF9 rfl rfl rfl rfl (fun es14 cl15 => ?_)
        refine lj_nil ?_
        refine nj_blk ?_
        refine nj_blk ?_
        exact cnk8 _ _ (putM u6.1 x4.Singer x4.At, u6.2) (es14, cl15, g7.2.2.1, g7.2.2.2.1, g7.2.2.2.2) (hJk8 _ (Option.some.inj hm).symm) ⟨rfl, rfl, rfl, rfl, rfl, rfl, trivial⟩ (fun _ h => h.picks [1, 1, 1] rfl)
      · have hm := ifB_f hb hm
        refine cj_seq ?_
        refine cj_reg ?_
        obtain ⟨k18, hk18, hm⟩ := bindS hm
        have hRk18 : ∀ t, k18 = .inr t → some t = some k8 := fun t e => by rw [e] at hm; exact hm
        refine lj_join (σ := Bool) (γ := Unit) (fun u16 => k18 = .inl u16) (fun u16 g17 => [(2, .map none), (3, .map (some b1)), (4, .map (some b2)), (6, .pointer (some ⟨b10, 0, none⟩)), (7, .int .i64 ((lkM u6.1 x4.Singer).getD 0)), (15, s0_.v), (16, .int .i64 (a0.length : Int)), (17, .int .i64 (i3 : Int)), (41, .bool u16)]) (fun u16 g17 => Sat w0 (keys ([] : List Ent)) A [.box b10 68 [.int .i64 x4.At, .string x4.Singer, .bool x4.Left], .obj (mapO kv9 b2 (mpV vv3 u6.1) g7.1 g7.2.1), .obj (famO kv9 SV.v (rowE R39) b1 u6.2 g7.2.2.1 none g7.2.2.2.1 g7.2.2.2.2), .ro (RdS R68 (SV.v s0_) a0)]) (fun u16 g17 hq => ?_) (fun J cnk18 => ?_)
        · have hm := Sum.fin_l hq hm
          refine cj_if (b := u16) rfl (fun hb => ?_) (fun hb => ?_)
          · have hm := ifB_t hb hm
            refine cj_seq ?_
            refine cj_reg ?_
            refine lp rfl (p_mv rfl) ?_
            refine lp rfl (p_fab fl68_1 rfl) ?_
            refine lp rfl (p_lbs ty9 rfl (j := 0) rfl rfl) ?_
            refine r_del (j := 1) (vv := vv3) (k := x4.Singer) Tryz.underlying108 keyF9 rfl rfl rfl (fun es19 => ?_)
            refine lj_seq ?_
            refine cj_seq ?_
            refine cj_reg ?_
            refine lp rfl (p_mv rfl) ?_
            refine lp rfl (p_fab fl68_0 rfl) ?_
            refine lp rfl (p_lbs ty3 rfl (j := 0) rfl rfl) ?_
            refine lp rfl (p_lss rfl rfl) ?_
            refine lj_seq ?_
            refine cj_if (b := decide (((lkM u6.1 x4.Singer).getD 0) < x4.At)) rfl (fun hb => ?_) (fun hb => ?_)
            · have hm := ifB_t hb hm
              obtain ⟨q22, hq22, hm⟩ := bindS hm
              refine cj_anyT [0, 1, 2, 3, 4, 5, 6, 7, 8, 9, 10] [12, 13] (Sat w0 (keys ([] : List Ent)) A [.box b10 68 [.int .i64 x4.At, .string x4.Singer, .bool x4.Left], .obj (mapO kv9 b2 (mpV vv3 (delM u6.1 x4.Singer)) es19 g7.2.1), .obj (famO kv9 SV.v (rowE R39) b1 u6.2 g7.2.2.1 none g7.2.2.2.1 g7.2.2.2.2), .ro (RdS R68 (SV.v s0_) a0)]) (Sat w0 (keys ([] : List Ent)) A [.box b10 68 [.int .i64 x4.At, .string x4.Singer, .bool x4.Left], .obj (mapO kv9 b2 (mpV vv3 (delM u6.1 x4.Singer)) es19 g7.2.1), .ro (RdS R68 (SV.v s0_) a0)]) (by kernel_rfl) ?_
              refine at_take2 0 rfl (by kernel_rfl) (by kernel_rfl) (by kernel_rfl) (fun _ h => h.picks [0, 0, 1] rfl) rfl rfl (p_mv rfl) (fun _ h => h.picks [0, 0, 1] rfl) ?_
              refine at_take2 1 rfl (by kernel_rfl) (by kernel_rfl) (by kernel_rfl) (fun _ h => h.picks [0, 0, 1] rfl) rfl rfl (p_fab fl68_1 rfl) (fun _ h => h.picks [0, 0, 1] rfl) ?_
              refine at_take2 2 rfl (by kernel_rfl) (by kernel_rfl) (by kernel_rfl) (fun _ h => h.picks [0, 0, 1] rfl) rfl rfl (p_lbs ty9 rfl (j := 0) rfl rfl) (fun _ h => h.picks [0, 0, 1] rfl) ?_
              refine at_take2 3 rfl (by kernel_rfl) (by kernel_rfl) (by kernel_rfl) (fun _ h => h.picks [0, 0, 1] rfl) rfl rfl (p_mv rfl) (fun _ h => h.picks [0, 0, 1] rfl) ?_
              refine at_take2 4 rfl (by kernel_rfl) (by kernel_rfl) (by kernel_rfl) (fun _ h => h.picks [0, 0, 1] rfl) rfl rfl (p_fab fl68_1 rfl) (fun _ h => h.picks [0, 0, 1] rfl) ?_
              refine at_take2 5 rfl (by kernel_rfl) (by kernel_rfl) (by kernel_rfl) (fun _ h => h.picks [0, 0, 1] rfl) rfl rfl (p_lbs ty9 rfl (j := 0) rfl rfl) (fun _ h => h.picks [0, 0, 1] rfl) ?_
              refine at_take1 6 rfl (by kernel_rfl) (by kernel_rfl) (by kernel_rfl) (by kernel_rfl) rfl rfl (p_lkm (vv := SV.v) (k := x4.Singer) (z := nilS) Tryz.underlying84 (keyF9) (fun _ => by kernel_rfl) (.imp (.fam 2 rfl) (fun _ h => h.map)) rfl rfl) (fun _ h => h.picks [0, 0, 0, 0] rfl) ?_
              refine at_take2 7 rfl (by kernel_rfl) (by kernel_rfl) (by kernel_rfl) (fun _ h => h.picks [0, 0, 1] rfl) rfl rfl (p_mv rfl) (fun _ h => h.picks [0, 0, 1] rfl) ?_
              refine at_take2 8 rfl (by kernel_rfl) (by kernel_rfl) (by kernel_rfl) (fun _ h => h.picks [0, 0, 1] rfl) rfl rfl (p_fab fl68_0 rfl) (fun _ h => h.picks [0, 0, 1] rfl) ?_
              refine at_take2 9 rfl (by kernel_rfl) (by kernel_rfl) (by kernel_rfl) (fun _ h => h.picks [0, 0, 1] rfl) rfl rfl (p_lbs ty3 rfl (j := 0) rfl rfl) (fun _ h => h.picks [0, 0, 1] rfl) ?_
              refine at_take2 10 rfl (by kernel_rfl) (by kernel_rfl) (by kernel_rfl) (fun _ h => h.picks [0, 0, 1] rfl) rfl rfl (p_bld [.int .i64 ((lkM u6.1 x4.Singer).getD 0), .int .i64 x4.At] rfl (fun _ => by kernel_rfl)) (fun _ h => h.picks [0, 0, 1] rfl) ?_
              refine at_each (rs := [11]) (by kernel_rfl) (by decide) ?_
              refine (.cons rfl (fun I cnI => ?_) .nil)
              · refine r_bs R39 [(TWindow.mk ((lkM u6.1 x4.Singer).getD 0) x4.At)] rfl rfl rfl (fun _ => by kernel_rfl) rfl (fun s26 => ?_)
                refine lj_nil ?_
                refine cnI _ _ (sof1 rfl rfl (fun _ h => h.picks [1, 1, 1, 1] rfl)) ?_
                refine at_each (rs := [12]) (by kernel_rfl) (by decide) ?_
                refine (.cons rfl (fun I cnI => ?_) .nil)
                · refine LJ.sat (fun _ h => h.takeR 3 rfl x4.Singer) ?_
                  refine r_app (k := 0) Tryz.underlying86 ty39 rfl rfl rfl rfl (.row 2 rfl) hq22 rfl (fun s28 => ?_)
                  refine lj_nil ?_
                  refine cnI _ _ (sof2 rfl rfl (fun _ h => h.picks [3, 3, 3] rfl)) ?_
                  refine at_each (rs := [13]) (by kernel_rfl) (by decide) ?_
                  refine (.cons rfl (fun I cnI => ?_) .nil)
                  · refine r_mpuF (x1 := q22) (g1 := s28) (k := x4.Singer) [1, 0] Tryz.underlying84 keyF9 rfl (.inr rfl) rfl rfl rfl (fun es29 cl30 => ?_)
                    refine lj_nil ?_
                    refine cnI _ _ (sof2 rfl rfl (fun _ h => h.picks [2, 2, 2] rfl)) ?_
                    refine at_done (by kernel_rfl) ?_
                    refine nj_blk ?_
                    refine nj_blk ?_
                    exact cnk8 _ _ (delM u6.1 x4.Singer, putM u6.2 x4.Singer q22) (es19, g7.2.1, putM g7.2.2.1 x4.Singer s28, es29, cl30) (hJk8 _ (Option.some.inj hm).symm) ⟨rfl, rfl, rfl, rfl, rfl, rfl, trivial⟩ (fun _ h => h.picks [3, 0, 2] rfl)
            · have hm := ifB_f hb hm
              refine cj_skip ?_
              refine nj_blk ?_
              refine nj_blk ?_
              exact cnk8 _ _ (delM u6.1 x4.Singer, u6.2) (es19, g7.2.1, g7.2.2.1, g7.2.2.2.1, g7.2.2.2.2) (hJk8 _ (Option.some.inj hm).symm) ⟨rfl, rfl, rfl, rfl, rfl, rfl, trivial⟩ (fun _ h => h.picks [1, 1, 1] rfl)
          · have hm := ifB_f hb hm
            refine cj_skip ?_
            refine nj_blk ?_
            refine nj_blk ?_
            exact cnk8 _ _ (u6.1, u6.2) (g7.1, g7.2.1, g7.2.2.1, g7.2.2.2.1, g7.2.2.2.2) (hJk8 _ (Option.some.inj hm).symm) ⟨rfl, rfl, rfl, rfl, rfl, rfl, trivial⟩ (fun _ h => h.picks [1, 1, 1] rfl)
        · have hm := hk18
          refine lp rfl (p_fab fl68_2 rfl) ?_
          refine lp rfl (p_lbs ty4 rfl (j := 0) rfl rfl) ?_
          refine lp rfl (p_mv rfl) ?_
          refine lcase (i := 44) x4.Left rfl (fun hb => ?_) (fun hb => ?_)
          · have hm := ifB_t hb hm
            refine lg true rfl rfl rfl ?_
            refine lp rfl (p_mv rfl) ?_
            refine lp rfl (p_pkt rfl rfl) ?_
            refine lp rfl (p_as rfl) ?_
            refine lj_nil ?_
            exact cnk18 _ _ (hasM u6.1 x4.Singer) () (Option.some.inj hm).symm ⟨rfl, rfl, rfl, rfl, rfl, rfl, rfl, rfl, rfl, trivial⟩ (fun _ h => h.picks [0, 0, 0, 0] rfl)
          · have hm := ifB_f hb hm
            refine ls true rfl rfl rfl rfl ?_
            refine lp rfl (p_pkf rfl rfl) ?_
            refine lp rfl (p_as rfl) ?_
            refine lj_nil ?_
            exact cnk18 _ _ false () (Option.some.inj hm).symm ⟨rfl, rfl, rfl, rfl, rfl, rfl, rfl, rfl, rfl, trivial⟩ (fun _ h => h.picks [0, 0, 0, 0] rfl)
    · have hm := hk13
      refine lp rfl (p_fab fl68_2 rfl) ?_
      refine lp rfl (p_lbs ty4 rfl (j := 0) rfl rfl) ?_
      refine lp rfl (p_not rfl) ?_
      refine lp rfl (p_mv rfl) ?_
      refine lcase (i := 32) (!x4.Left) rfl (fun hb => ?_) (fun hb => ?_)
      · have hm := ifB_t hb hm
        refine lg true rfl rfl rfl ?_
        refine lp rfl (p_mv rfl) ?_
        refine lg true rfl rfl rfl ?_
        refine lp rfl (p_not rfl) ?_
        refine lp rfl (p_pkt rfl rfl) ?_
        refine lp rfl (p_as rfl) ?_
        refine lj_nil ?_
        exact cnk13 _ _ (!(hasM u6.1 x4.Singer)) () (Option.some.inj hm).symm ⟨rfl, rfl, rfl, rfl, rfl, rfl, rfl, rfl, rfl, rfl, trivial⟩ (fun _ h => h.picks [0, 0, 0, 0] rfl)
      · have hm := ifB_f hb hm
        refine ls true rfl rfl rfl rfl ?_
        refine ls true rfl rfl rfl rfl ?_
        refine lp rfl (p_pkf rfl rfl) ?_
        refine lp rfl (p_as rfl) ?_
        refine lj_nil ?_
        exact cnk13 _ _ false () (Option.some.inj hm).symm ⟨rfl, rfl, rfl, rfl, rfl, rfl, rfl, rfl, rfl, rfl, trivial⟩ (fun _ h => h.picks [0, 0, 0, 0] rfl)
theorem ok_kit_Has (a0 : TWindow) (a1 : Int) {r : Bool} (hm : m_kit_Has a0 a1 = some r) :
    Ctr Tryz.prog 37 [.agg (R39.enc a0).toArray, .int .i64 a1].toArray ([] : List Ent) [] (X := Unit) (fun _ => .bool r) (fun _ => []) := by
  unfold m_kit_Has at hm
  refine ctr_mk (vs := [(0, .agg (R39.enc a0).toArray), (1, .int .i64 a1)]) Tryz.func37 rfl Tryz.ntmps37 rfl ⟨rfl, rfl, trivial⟩ (fun w0 A => ?_)
  refine cj_seq ?_
  refine cj_reg ?_
  refine r_bx (cs := [.int .i64 a0.From, .int .i64 a0.To]) rfl rfl rfl (fun b1 => ?_)
  refine lp rfl (p_as rfl) ?_
  refine lj_seq ?_
  refine cj_seq ?_
  refine cj_reg ?_
  refine lp rfl (p_fab fl39_0 rfl) ?_
  refine lp rfl (p_lbs ty3 rfl (j := 0) rfl rfl) ?_
  refine lp rfl (p_mv rfl) ?_
  refine lp rfl (p_leq rfl rfl) ?_
  refine lp rfl (p_mv rfl) ?_
  refine lcase (i := 9) (decide (a0.From ≤ a1)) rfl (fun hb => ?_) (fun hb => ?_)
  · have hm := ifB_t hb hm
    refine lg true rfl rfl rfl ?_
    refine lp rfl (p_mv rfl) ?_
    refine lg true rfl rfl rfl ?_
    refine lp rfl (p_fab fl39_1 rfl) ?_
    refine lg true rfl rfl rfl ?_
    refine lp rfl (p_lbs ty3 rfl (j := 0) rfl rfl) ?_
    refine lg true rfl rfl rfl ?_
    refine lp rfl (p_lss rfl rfl) ?_
    refine lp rfl (p_pkt rfl rfl) ?_
    refine lp rfl (p_as rfl) ?_
    refine lj_seq ?_
    obtain rfl := Option.some.inj hm
    exact cj_rt () [] Tryz.results37 (.tmp rfl .nil) rfl rfl
  · have hm := ifB_f hb hm
    refine ls true rfl rfl rfl rfl ?_
    refine ls true rfl rfl rfl rfl ?_
    refine ls true rfl rfl rfl rfl ?_
    refine ls true rfl rfl rfl rfl ?_
    refine lp rfl (p_pkf rfl rfl) ?_
    refine lp rfl (p_as rfl) ?_
    refine lj_seq ?_
    obtain rfl := Option.some.inj hm
    exact cj_rt () [] Tryz.results37 (.tmp rfl .nil) rfl rfl
theorem ok_rehearse_There_1 (a0 : TWindow) (b1_ : Nat) (a1_0 : Int) {r : Bool} (hm : m_rehearse_There_1 a0 a1_0 = some r) :
    Ctr Tryz.prog 36 [.agg (R39.enc a0).toArray, .pointer (some ⟨b1_, 0, none⟩)].toArray ([] : List Ent) [BoxS b1_ 3 [.int .i64 a1_0]] (X := Unit) (fun _ => .bool r) (fun _ => []) := by
  unfold m_rehearse_There_1 at hm
  refine ctr_mk (vs := [(0, .agg (R39.enc a0).toArray), (1, .pointer (some ⟨b1_, 0, none⟩))]) Tryz.func36 rfl Tryz.ntmps36 rfl ⟨rfl, rfl, trivial⟩ (fun w0 A => ?_)
  refine cj_seq ?_
  refine cj_reg ?_
  refine r_bx (cs := [.int .i64 a0.From, .int .i64 a0.To]) rfl rfl rfl (fun b1 => ?_)
  refine lp rfl (p_as rfl) ?_
  refine lj_seq ?_
  refine cj_seq ?_
  refine cj_reg ?_
  refine lp rfl (p_lbw ty39 rfl (j := 0) rfl rfl) ?_
  refine lp rfl (p_rbs ty3 rfl (.ro 1 rfl) rfl) ?_
  obtain ⟨y2, hy2, hm⟩ := bindS hm
  refine r_call [] cf37 rfl rfl (ok_kit_Has a0 a1_0 hy2) rfl rfl .nil (fun _ => rfl) rfl (fun _ => ?_)
  refine lp rfl (p_as rfl) ?_
  refine lj_seq ?_
  obtain rfl := Option.some.inj hm
  exact cj_rt () [] Tryz.results36 (.tmp rfl .nil) rfl rfl
theorem ok_slices_IndexFunc_api_Window_api_Window__rehearse_There_1 (s0_ : SV) (a0 : (List TWindow)) (b1_c0_ : Nat) (a1_c0_0 : Int) {r : Int} (hm : m_slices_IndexFunc_api_Window_api_Window__rehearse_There_1 a0 a1_c0_0 = some r) :
    Ctr Tryz.prog 55 [s0_.v, .func (.func 36) #[] [.pointer (some ⟨b1_c0_, 0, none⟩)].toArray].toArray ([] : List Ent) [RdS R39 (SV.v s0_) a0, BoxS b1_c0_ 3 [.int .i64 a1_c0_0]] (X := Unit) (fun _ => .int .i64 r) (fun _ => []) := by
  unfold m_slices_IndexFunc_api_Window_api_Window__rehearse_There_1 at hm
  refine ctr_mk (vs := [(0, s0_.v), (1, .func (.func 36) #[] [.pointer (some ⟨b1_c0_, 0, none⟩)].toArray)]) Tryz.func55 rfl Tryz.ntmps55 rfl ⟨rfl, rfl, trivial⟩ (fun w0 A => ?_)
  refine cj_seq ?_
  refine cj_reg ?_
  refine lp rfl (p_as rfl) ?_
  refine lj_seq ?_
  refine cj_seq ?_
  refine cj_seq ?_
  refine cj_reg ?_
  refine lp rfl (p_mv rfl) ?_
  refine lp rfl (p_len Tryz.underlying86 rfl (.ro 0 rfl)) ?_
  refine lp rfl (p_mv rfl) ?_
  refine lj_seq ?_
  obtain ⟨f7, hf7, hm⟩ := bindS hm
  refine cj_range (γ := Unit) (m := (a0.length : Int)) hf7 () (fun u4 g5 => [(0, s0_.v), (1, .func (.func 36) #[] [.pointer (some ⟨b1_c0_, 0, none⟩)].toArray), (4, .int .i64 0)]) (fun u4 g5 => Sat w0 (keys ([] : List Ent)) A [.ro (RdS R39 (SV.v s0_) a0), .ro (BoxS b1_c0_ 3 [.int .i64 a1_c0_0])]) ⟨rfl, rfl, rfl, rfl, rfl, trivial⟩ (fun _ h => h.picks [0, 0] rfl) (nat_lt _) (fun _ h => (FactAt.get (F := RdS R39 (SV.v s0_) a0) (.ro 0 rfl) h).1) (fun _ _ => ⟨rfl, rfl, rfl, rfl⟩) ⟨rfl, rfl, rfl, rfl, rfl⟩ rfl rfl rfl (fun u4 g5 e => ?_) (fun aftk6 i1 x2 u4 g5 k6 hx3 hs J hJk6 hBk6 hX I cnk6 => ?_)
  · have hm := Flow.fin_b e hm
    refine nj_seq ?_
    refine cj_seq ?_
    refine cj_reg ?_
    refine lp rfl (p_as rfl) ?_
    refine lj_seq ?_
    obtain rfl := Option.some.inj hm
    exact cj_rt () [] Tryz.results55 (.tmp rfl .nil) rfl rfl
  · have hRk6 : ∀ t, k6 = .ret t → some t = some r := fun t e => by rw [hX t e] at hm; exact hm
    have hm := hs
    refine cj_seq ?_
    refine cj_reg ?_
    refine lp rfl (p_mv rfl) ?_
    refine lp rfl (p_as rfl) ?_
    refine lj_seq ?_
    refine cj_seq ?_
    refine cj_reg ?_
    refine lp rfl (p_mv rfl) ?_
    refine lp rfl (p_mv rfl) ?_
    refine lp rfl (p_mv rfl) ?_
    refine lp rfl (p_idx Tryz.underlying86 ty39 rfl rfl (.ro 0 rfl) (getI_nat.trans hx3)) ?_
    refine lp rfl (p_lea ty39 rfl (.ro 0 rfl) hx3) ?_
    obtain ⟨y8, hy8, hm⟩ := bindS hm
    refine r_call [] cf36 rfl rfl (ok_rehearse_There_1 x2 b1_c0_ a1_c0_0 hy8) rfl rfl (.cons (.ro 1 rfl) .nil) (fun _ => rfl) rfl (fun _ => ?_)
    refine lj_seq ?_
    refine cj_if (b := y8) rfl (fun hb => ?_) (fun hb => ?_)
    · have hm := ifB_t hb hm
      refine cj_seq ?_
      refine cj_reg ?_
      refine lp rfl (p_mv rfl) ?_
      refine lp rfl (p_as rfl) ?_
      refine lj_seq ?_
      have hm := hRk6 _ (Option.some.inj hm).symm
      obtain rfl := Option.some.inj hm
      exact cj_rt () [] Tryz.results55 (.tmp rfl .nil) rfl rfl
    · have hm := ifB_f hb hm
      refine cj_skip ?_
      refine nj_blk ?_
      exact cnk6 _ _ () () (hJk6 _ (Option.some.inj hm).symm) ⟨rfl, rfl, rfl, rfl, rfl, trivial⟩ (fun _ h => h.picks [0, 0] rfl)
theorem ok_slices_ContainsFunc_api_Window_api_Window__rehearse_There_1 (s0_ : SV) (a0 : (List TWindow)) (b1_c0_ : Nat) (a1_c0_0 : Int) {r : Bool} (hm : m_slices_ContainsFunc_api_Window_api_Window__rehearse_There_1 a0 a1_c0_0 = some r) :
    Ctr Tryz.prog 35 [s0_.v, .func (.func 36) #[] [.pointer (some ⟨b1_c0_, 0, none⟩)].toArray].toArray ([] : List Ent) [RdS R39 (SV.v s0_) a0, BoxS b1_c0_ 3 [.int .i64 a1_c0_0]] (X := Unit) (fun _ => .bool r) (fun _ => []) := by
  unfold m_slices_ContainsFunc_api_Window_api_Window__rehearse_There_1 at hm
  refine ctr_mk (vs := [(0, s0_.v), (1, .func (.func 36) #[] [.pointer (some ⟨b1_c0_, 0, none⟩)].toArray)]) Tryz.func35 rfl Tryz.ntmps35 rfl ⟨rfl, rfl, trivial⟩ (fun w0 A => ?_)
  refine cj_seq ?_
  refine cj_reg ?_
  refine lp rfl (p_as rfl) ?_
  refine lj_seq ?_
  refine cj_seq ?_
  refine cj_reg ?_
  refine lp rfl (p_mv rfl) ?_
  refine lp rfl (p_mv rfl) ?_
  obtain ⟨y1, hy1, hm⟩ := bindS hm
  refine r_call [] cf55 rfl rfl (ok_slices_IndexFunc_api_Window_api_Window__rehearse_There_1 s0_ a0 b1_c0_ a1_c0_0 hy1) rfl rfl (.cons (.ro 0 rfl) (.cons (.ro 1 rfl) .nil)) (fun _ => rfl) rfl (fun _ => ?_)
  refine lp rfl (p_geq rfl rfl) ?_
  refine lp rfl (p_as rfl) ?_
  refine lj_seq ?_
  obtain rfl := Option.some.inj hm
  exact cj_rt () [] Tryz.results35 (.tmp rfl .nil) rfl rfl
theorem ok_maps_Keys_map_string_bool_string_bool (m : Nat) : Ctr Tryz.prog 39 [.map (some m)].toArray ([] : List Ent) [] (X := Nat) (fun b => .func (.func 58) #[] [.pointer (some ⟨b, 0, none⟩)].toArray) (fun b => [.box b 83 [.map (some m)]]) := by
  refine ctr_mk (vs := [(0, .map (some m))]) Tryz.func39 rfl Tryz.ntmps39 rfl ⟨rfl, trivial⟩ (fun w0 A => ?_)
  refine cj_seq ?_
  refine cj_reg ?_
  refine r_bx (cs := [.map (some m)]) rfl rfl rfl (fun b => ?_)
  refine lp rfl (p_as rfl) ?_
  refine lj_seq ?_
  refine cj_seq ?_
  refine cj_reg ?_
  refine lp rfl (p_fn (cv := [.pointer (some ⟨b, 0, none⟩)]) rfl) ?_
  refine lp rfl (p_as rfl) ?_
  refine lj_seq ?_
  exact cj_rt b [0] Tryz.results39 (.tmp rfl .nil) rfl rfl
theorem ok_slices_Sorted_string__maps_Keys_map_string_bool_string_bool_1_A (bx mb : Nat) (mes : Array MapEntry) (mcl : Nat) (L : List (ByteArray × Bool)) (hl : L.length ≤ 1000000000) :
    Ctr Tryz.prog 72 [SV.v nilS, .func (.func 58) #[] [.pointer (some ⟨bx, 0, none⟩)].toArray].toArray [.row R9 (SV.v nilS) []] [BoxS bx 83 [.map (some mb)], MapAt kv9 mb (mpV vv4 L) mes mcl] (X := SV × {q : List ByteArray // q.Perm (L.map Prod.fst)}) (fun s => s.1.v) (fun s => [.row R9 (SV.v s.1) s.2.1]) := by
  refine ctr_mkM (vs := [(0, SV.v nilS), (1, .func (.func 58) #[] [.pointer (some ⟨bx, 0, none⟩)].toArray)]) Tryz.func72 rfl Tryz.ntmps72 rfl ⟨rfl, rfl, trivial⟩ (fun w0 A => ?_)
  refine cj_seq ?_
  refine cj_reg ?_
  refine r_bx (cs := [SV.v nilS]) rfl rfl rfl (fun b1 => ?_)
  refine lp rfl (p_as rfl) ?_
  refine lj_seq ?_
  refine cj_seq ?_
  refine cj_seq ?_
  refine cj_reg ?_
  refine lp rfl (p_mv rfl) ?_
  refine lj_seq ?_
  refine cj_keys (γ := SV) (fn := Tryz.f58) (vv := vv4) (ρ := List ByteArray) Tryz.func58 rfl rfl rfl Tryz.underlying83 ty83 cf58 rfl rfl (by kernel_rfl) (by kernel_rfl) (appStep_all (by_ := 16) (by decide) (by rw [List.length_map]; omega)) (fun u g => [.box b1 42 [g.v], .ro (BoxS bx 83 [.map (some mb)]), .ro (MapAt kv9 mb (mpV vv4 L) mes mcl), .row R9 (SV.v g) u]) nilS (fun _ h => h.picks [0, 1, 1, 0] rfl) (fun _ _ => (.ro 1 rfl)) (fun _ _ => (.ro 2 rfl)) (fun u g D aft => ?_) (fun i x u g k hs o1 o2 o3 oi I I0 hend hmid => ?_)
  · refine nj_seq ?_
    refine cj_seq ?_
    refine cj_reg ?_
    refine lp rfl (p_lbs ty42 rfl (j := 1) rfl rfl) ?_
    refine lp rfl (p_as rfl) ?_
    refine lj_seq ?_
    exact cj_rtM 0 (g, ⟨u, KfP_brk aft⟩) [4] Tryz.results72 rfl (.tmp rfl .nil) rfl rfl
  · have hm := hs
    refine cj_reg ?_
    refine lp rfl (p_as rfl) ?_
    refine lj_nil ?_
    refine hmid _ _ [.obj oi, .box b1 42 [g.v], .ro (BoxS bx 83 [.map (some mb)]), .ro (MapAt kv9 mb (mpV vv4 L) mes mcl), .row R9 (SV.v g) u] (fun _ h => h.picks [0, 0, 0, 0, 0, 0, 0] rfl) ?_
    refine cj_blk ?_
    refine cj_reg ?_
    refine lp rfl (p_lbs ty42 rfl (j := 3) rfl rfl) ?_
    refine lp rfl (p_mv rfl) ?_
    refine r_bs R9 [x] rfl rfl rfl (fun _ => by kernel_rfl) rfl (fun s13 => ?_)
    obtain ⟨q, hq, hm⟩ := bindS hm
    refine r_app (k := 7) Tryz.underlying42 ty9 rfl rfl rfl rfl (.row 0 rfl) hq rfl (fun s15 => ?_)
    refine r_sb (vs := [s15.v]) (j := 4) ty42 rfl rfl rfl rfl rfl rfl rfl ?_
    refine lj_nil ?_
    refine nj_blk ?_
    exact hend _ _ q s15 (Option.some.inj hm).symm (fun _ h => h.picks [1, 1, 1, 1, 1, 1, 1] rfl)
theorem ok_slices_Sorted_string__maps_Keys_map_string_bool_string_bool_1_C (bx mb : Nat) (mes : Array MapEntry) (mcl : Nat) (L : List (ByteArray × Bool)) (hl : L.length ≤ 1000000000) :
    Ctr Tryz.prog 56 [.func (.func 58) #[] [.pointer (some ⟨bx, 0, none⟩)].toArray].toArray ([] : List Ent) [BoxS bx 83 [.map (some mb)], MapAt kv9 mb (mpV vv4 L) mes mcl] (X := SV × {q : List ByteArray // q.Perm (L.map Prod.fst)}) (fun s => s.1.v) (fun s => [.row R9 (SV.v s.1) s.2.1]) := by
  refine ctr_mk (vs := [(0, .func (.func 58) #[] [.pointer (some ⟨bx, 0, none⟩)].toArray)]) Tryz.func56 rfl Tryz.ntmps56 rfl ⟨rfl, trivial⟩ (fun w0 A => ?_)
  refine cj_seq ?_
  refine cj_reg ?_
  refine lp rfl (p_as rfl) ?_
  refine lj_seq ?_
  refine cj_seq ?_
  refine cj_reg ?_
  refine lp rfl (p_mv rfl) ?_
  refine r_nil R9 ?_
  refine r_call [0] cf72 rfl rfl (ok_slices_Sorted_string__maps_Keys_map_string_bool_string_bool_1_A bx mb mes mcl L hl) rfl rfl (.cons (.ro 0 rfl) (.cons (.ro 1 rfl) .nil)) (fun _ => rfl) rfl (fun s3 => ?_)
  refine lp rfl (p_as rfl) ?_
  refine lj_seq ?_
  exact cj_rt s3 [0] Tryz.results56 (.tmp rfl .nil) rfl rfl
theorem ok_slices_Sorted_string__maps_Keys_map_string_bool_string_bool_1 (bx mb : Nat) (mes : Array MapEntry) (mcl : Nat) (L : List (ByteArray × Bool)) {r : List ByteArray} (hm : m_slices_Sorted_string__maps_Keys_map_string_bool_string_bool_1 L = some r) :
    Ctr Tryz.prog 38 [.func (.func 58) #[] [.pointer (some ⟨bx, 0, none⟩)].toArray].toArray ([] : List Ent) [BoxS bx 83 [.map (some mb)], MapAt kv9 mb (mpV vv4 L) mes mcl] (X := SV) (fun s => s.v) (fun s => [.row R9 (SV.v s) r]) := by
  unfold m_slices_Sorted_string__maps_Keys_map_string_bool_string_bool_1 at hm
  split at hm
  case isFalse => cases hm
  rename_i hl
  refine ctr_mk (vs := [(0, .func (.func 58) #[] [.pointer (some ⟨bx, 0, none⟩)].toArray)]) Tryz.func38 rfl Tryz.ntmps38 rfl ⟨rfl, trivial⟩ (fun w0 A => ?_)
  refine cj_seq ?_
  refine cj_reg ?_
  refine lp rfl (p_as rfl) ?_
  refine lj_seq ?_
  refine cj_seq ?_
  refine cj_reg ?_
  refine lp rfl (p_mv rfl) ?_
  refine r_call [] cf56 rfl rfl (ok_slices_Sorted_string__maps_Keys_map_string_bool_string_bool_1_C bx mb mes mcl L hl) rfl rfl (.cons (.ro 0 rfl) (.cons (.ro 1 rfl) .nil)) (fun _ => rfl) rfl (fun s2 => ?_)
  obtain ⟨s2, q, hq⟩ := s2
  have hm := (m_Sort_perm hq).trans hm
  refine lp rfl (p_as rfl) ?_
  refine lj_seq ?_
  refine cj_seq ?_
  refine cj_reg ?_
  refine lp rfl (p_mv rfl) ?_
  refine r_call [0] cf57 rfl rfl (ok_slices_Sort_string_string s2 q hm) rfl rfl .nil (fun _ => rfl) rfl (fun _ => ?_)
  refine lj_seq ?_
  refine cj_seq ?_
  refine cj_reg ?_
  refine lp rfl (p_mv rfl) ?_
  refine lp rfl (p_as rfl) ?_
  refine lj_seq ?_
  exact cj_rt s2 [0] Tryz.results38 (.tmp rfl .nil) rfl rfl
theorem ok_rehearse_There (s0_ : SV) (a0 : (List TCame)) (a1 : Int) {r : (List ByteArray) × Int} (hm : m_rehearse_There a0 a1 = some r) :
    Ctr Tryz.prog 20 [s0_.v, .int .i64 a1].toArray ([] : List Ent) [RdS R68 (SV.v s0_) a0] (X := SV) (fun s => .tuple [s.v, .int .i64 r.2].toArray) (fun s => [.row R9 (SV.v s) r.1]) := by
  unfold m_rehearse_There at hm
  refine ctr_mk (vs := [(0, s0_.v), (1, .int .i64 a1)]) Tryz.func20 rfl Tryz.ntmps20 rfl ⟨rfl, rfl, trivial⟩ (fun w0 A => ?_)
  refine cj_seq ?_
  refine cj_reg ?_
  refine r_bx (cs := [.int .i64 a1]) rfl rfl rfl (fun b1 => ?_)
  refine lp rfl (p_as rfl) ?_
  refine lp rfl (p_as rfl) ?_
  refine lj_seq ?_
  refine cj_seq ?_
  refine cj_seq ?_
  refine cj_reg ?_
  refine lp rfl (p_mv rfl) ?_
  obtain ⟨y2, hy2, hm⟩ := bindS hm
  refine r_call [] cf33 rfl rfl (ok_rehearse_CheckCame s0_ a0 hy2) rfl rfl (.cons (.ro 1 rfl) .nil) (fun _ => rfl) rfl (fun _ => ?_)
  refine lp rfl (p_as rfl) ?_
  refine lj_seq ?_
  refine cj_seq ?_
  refine cj_reg ?_
  refine lp rfl (p_mv rfl) ?_
  refine lp rfl (p_neq rfl rfl) ?_
  refine lj_seq ?_
  refine cj_if (b := y2 != 0) rfl (fun hb => ?_) (fun hb => ?_)
  · have hm := ifB_t hb hm
    refine cj_seq ?_
    refine cj_reg ?_
    refine lp rfl (p_mv rfl) ?_
    refine lp rfl (p_as rfl) ?_
    refine lp rfl (p_as rfl) ?_
    refine lj_seq ?_
    obtain rfl := Option.some.inj hm
    refine cj_nil R9 ?_
    exact cj_rt nilS [0] Tryz.results20 (.tmp rfl (.tmp rfl .nil)) rfl rfl
  · have hm := ifB_f hb hm
    refine cj_skip ?_
    refine nj_seq ?_
    refine cj_seq ?_
    refine cj_seq ?_
    refine cj_reg ?_
    refine lp rfl (p_lbs ty3 rfl (j := 0) rfl rfl) ?_
    obtain ⟨y4, hy4, hm⟩ := bindS hm
    refine r_call [] cf23 rfl rfl (ok_kit_IsMoment a1 hy4) rfl rfl .nil (fun _ => rfl) rfl (fun _ => ?_)
    refine lp rfl (p_not rfl) ?_
    refine lj_seq ?_
    refine cj_if (b := !y4) rfl (fun hb => ?_) (fun hb => ?_)
    · have hm := ifB_t hb hm
      refine cj_seq ?_
      refine cj_reg ?_
      refine lp rfl (p_as rfl) ?_
      refine lp rfl (p_as rfl) ?_
      refine lj_seq ?_
      obtain rfl := Option.some.inj hm
      refine cj_nil R9 ?_
      exact cj_rt nilS [0] Tryz.results20 (.tmp rfl (.tmp rfl .nil)) rfl rfl
    · have hm := ifB_f hb hm
      refine cj_skip ?_
      refine nj_seq ?_
      refine cj_seq ?_
      refine cj_reg ?_
      refine r_mkmap kv9 vv4 rfl (fun b6 => ?_)
      refine lp rfl (p_as rfl) ?_
      refine lj_seq ?_
      refine cj_seq ?_
      refine cj_seq ?_
      refine cj_reg ?_
      refine lp rfl (p_mv rfl) ?_
      obtain ⟨y7, hy7, hm⟩ := bindS hm
      refine r_call [] cf34 rfl rfl (ok_rehearse_presences s0_ a0 hy7) rfl rfl (.cons (.ro 2 rfl) .nil) (fun _ => rfl) rfl (fun ⟨b8, gz9, gz10, gz11⟩ => ?_)
      refine r_rng (vv := SV.v) Tryz.underlying84 (.imp (.fam 0 rfl) (fun _ h => h.map)) rfl rfl (fun b12 hrb13 => ?_)
      refine lj_seq ?_
      refine cj_pure (F := FamAt kv9 SV.v (rowE R39) b8 y7 gz9 none gz10 gz11) (.fam 1 rfl) (fun _ h => h.kys) (fun hky19 => ?_)
      refine cj_fact (F := fun _ => KeptK (y7.map Prod.fst) gz10 gz11 gz9 gz10 gz11) (.tru (KeptK.refl _ hky19)) ?_
      have hsq := anyOrd_spec hm
      refine cj_frange (γ := (Array MapEntry × Nat)) (vv := SV.v) (fun u21 g22 => gz9) (fun u21 g22 => gz10) (fun u21 g22 => gz11) (fun L hL => hsq L hL) hrb13 (#[], 0) (fun u21 g22 => [(3, .pointer (some ⟨b1, 0, none⟩)), (4, .slice none 0 0), (5, .int .i64 0), (7, .map (some b6))]) (fun u21 g22 => [.ro (fun _ => KeptK (y7.map Prod.fst) gz10 gz11 gz9 gz10 gz11), .obj (famO kv9 SV.v (rowE R39) b8 y7 gz9 none gz10 gz11), .obj (mapO kv9 b6 (mpV vv4 u21) g22.1 g22.2), .box b1 3 [.int .i64 a1]]) ⟨rfl, rfl, rfl, rfl, rfl, trivial⟩ (fun _ h => h.picks [1, 0, 0, 0, 0] rfl) (fun _ _ => .and (.imp (.fam 1 rfl) (fun _ h => h.map)) (.ro 0 rfl)) (fun _ _ => ⟨rfl, rfl, rfl⟩) ⟨rfl, rfl, rfl⟩ rfl rfl (fun u21 g22 e => ?_) (fun aftk23 i14 x15 u21 g22 idx18 ix17 k23 hx16 hs J hJk23 hBk23 hX I cnk23 => ?_)
      · have hm := Flow.fin_b (f := .brk u21) rfl e
        refine NJ.sat (fun _ h => h.picks [1, 1, 1] rfl) ?_
        refine nj_seq ?_
        refine cj_seq ?_
        refine cj_reg ?_
        refine lp rfl (p_mv rfl) ?_
        refine r_call [] cf39 rfl rfl (ok_maps_Keys_map_string_bool_string_bool b6) rfl rfl .nil (fun _ => rfl) rfl (fun b29 => ?_)
        refine r_fzb 0 rfl ?_
        obtain ⟨y30, hy30, hm⟩ := bindS hm
        refine r_call [] cf38 rfl rfl (ok_slices_Sorted_string__maps_Keys_map_string_bool_string_bool_1 b29 b6 g22.1 g22.2 u21 hy30) rfl rfl (.cons (.ro 0 rfl) (.cons (.map 2 rfl) .nil)) (fun _ => rfl) rfl (fun s31 => ?_)
        refine lp rfl (p_as rfl) ?_
        refine lp rfl (p_as rfl) ?_
        refine lj_seq ?_
        obtain rfl := Option.some.inj hm
        exact cj_rt s31 [0] Tryz.results20 (.tmp rfl (.tmp rfl .nil)) rfl rfl
      · have hRk23 : ∀ t, k23 = .ret t → some t = some r := fun t e => hX t e
        have hm := hs
        refine cj_pure (F := fun _ => KeptK (y7.map Prod.fst) gz10 gz11 gz9 gz10 gz11) (.ro 1 rfl) (fun _ h => h) (fun hkp25 => ?_)
        refine cj_seq ?_
        refine cj_reg ?_
        refine lp rfl (p_entF (n := 0) (k := x15) (z := nilS) (.fam 2 rfl) hkp25 rfl hx16 rfl) ?_
        refine lp rfl (p_ext rfl rfl) ?_
        refine lp rfl (p_ext rfl rfl) ?_
        refine lp rfl (p_as rfl) ?_
        refine lp rfl (p_as rfl) ?_
        refine lj_seq ?_
        refine cj_seq ?_
        refine cj_reg ?_
        refine lp rfl (p_mv rfl) ?_
        refine lp rfl (p_fn (cv := [.pointer (some ⟨b1, 0, none⟩)]) rfl) ?_
        obtain ⟨y26, hy26, hm⟩ := bindS hm
        refine r_call [] cf35 rfl rfl (ok_slices_ContainsFunc_api_Window_api_Window__rehearse_There_1 ((lkM gz9 x15).getD nilS) ((lkM y7 x15).getD []) b1 a1 hy26) rfl rfl (.cons (.imp (.fam 2 rfl) (fun _ h => h.look x15)) (.cons (.imp (.box 4 rfl) (fun _ h => h)) .nil)) (fun _ => rfl) rfl (fun _ => ?_)
        refine lj_seq ?_
        refine cj_if (b := y26) rfl (fun hb => ?_) (fun hb => ?_)
        · have hm := ifB_t hb hm
          refine cj_reg ?_
          refine lp rfl (p_mv rfl) ?_
          refine lp rfl (p_mv rfl) ?_
          refine r_mpu (j := 3) (vv := vv4) (k := x15) (v := true) Tryz.underlying83 keyF9 rfl rfl rfl rfl (fun es27 cl28 => ?_)
          refine lj_nil ?_
          refine nj_blk ?_
          exact cnk23 _ _ (putM u21 x15 true) (es27, cl28) (hJk23 _ (Option.some.inj hm).symm) ⟨rfl, rfl, rfl, rfl, rfl, trivial⟩ (fun _ h => h.picks [0, 0, 0, 0, 0] rfl)
        · have hm := ifB_f hb hm
          refine cj_skip ?_
          refine nj_blk ?_
          exact cnk23 _ _ u21 (g22.1, g22.2) (hJk23 _ (Option.some.inj hm).symm) ⟨rfl, rfl, rfl, rfl, rfl, trivial⟩ (fun _ h => h.picks [0, 0, 0, 0, 0] rfl)
theorem ok_club_usesOf (a0 : Int) {r : Tclub_uses} (hm : m_club_usesOf a0 = some r) :
    Ctr Tryz.prog 128 [.int .i64 a0].toArray ([] : List Ent) [] (X := Unit) (fun _ => .agg (R191.enc r).toArray) (fun _ => []) := by
  unfold m_club_usesOf at hm
  refine ctr_mk (vs := [(0, .int .i64 a0)]) Tryz.func128 rfl Tryz.ntmps128 rfl ⟨rfl, trivial⟩ (fun w0 A => ?_)
  refine cj_seq ?_
  refine cj_reg ?_
  refine r_al ty191 rfl (fun b1 => ?_)
  refine lj_seq ?_
  refine cj_seq ?_
  refine cj_reg ?_
  refine lp rfl (p_mv rfl) ?_
  refine lp rfl (p_eql rfl rfl) ?_
  refine lp rfl (p_mv rfl) ?_
  refine lp rfl (p_eql rfl rfl) ?_
  refine lp rfl (p_mv rfl) ?_
  refine lp rfl (p_eql rfl rfl) ?_
  refine lp rfl (p_as rfl) ?_
  refine lp rfl (p_as rfl) ?_
  refine lp rfl (p_as rfl) ?_
  refine lj_seq ?_
  refine cj_seq ?_
  refine cj_reg ?_
  refine lp rfl (p_mv rfl) ?_
  refine lp rfl (p_mv rfl) ?_
  refine lcase (i := 13) (a0 == 1) rfl (fun hb => ?_) (fun hb => ?_)
  · have hm := ifB_t hb hm
    refine ls false rfl rfl rfl rfl ?_
    refine ls false rfl rfl rfl rfl ?_
    refine lp rfl (p_pkt rfl rfl) ?_
    refine lp rfl (p_mv rfl) ?_
    refine ls false rfl rfl rfl rfl ?_
    refine lp rfl (p_pkt rfl rfl) ?_
    refine lp rfl (p_mv rfl) ?_
    refine ls false rfl rfl rfl rfl ?_
    refine lp rfl (p_pkt rfl rfl) ?_
    refine lp rfl (p_mv rfl) ?_
    refine lp rfl (p_eql rfl rfl) ?_
    refine lp rfl (p_mv rfl) ?_
    refine lcase (i := 25) (a0 == 4) rfl (fun hb => ?_) (fun hb => ?_)
    · have hm := ifB_t hb hm
      refine ls false rfl rfl rfl rfl ?_
      refine lp rfl (p_pkt rfl rfl) ?_
      refine lp rfl (p_mv rfl) ?_
      refine ls false rfl rfl rfl rfl ?_
      refine ls false rfl rfl rfl rfl ?_
      refine lp rfl (p_pkt rfl rfl) ?_
      refine lp rfl (p_mv rfl) ?_
      refine lp rfl (p_mv rfl) ?_
      refine lcase (i := 33) (a0 == 1) rfl (fun hb => ?_) (fun hb => ?_)
      · have hm := ifB_t hb hm
        refine ls false rfl rfl rfl rfl ?_
        refine lp rfl (p_pkt rfl rfl) ?_
        refine lp rfl (p_mv rfl) ?_
        refine lp rfl (p_mv rfl) ?_
        refine lp rfl (p_eql rfl rfl) ?_
        refine lp rfl (p_bld [.bool true, .bool true, .bool true, .bool (a0 == 5), .bool (a0 == 7)] rfl (fun _ => by kernel_rfl)) ?_
        refine r_sb (vs := [.bool true, .bool true, .bool true, .bool (a0 == 5), .bool (a0 == 7)]) (j := 0) ty191 rfl rfl rfl rfl rfl rfl rfl ?_
        refine lj_seq ?_
        obtain rfl := Option.some.inj hm
        exact cj_rt () [] Tryz.results128 (.agg (k := 0) ty191 rfl rfl rfl .nil) rfl rfl
      · have hm := ifB_f hb hm
        refine lg false rfl rfl rfl ?_
        refine lp rfl (p_mv rfl) ?_
        refine lp rfl (p_pkf rfl rfl) ?_
        refine lp rfl (p_mv rfl) ?_
        refine lp rfl (p_mv rfl) ?_
        refine lp rfl (p_eql rfl rfl) ?_
        refine lp rfl (p_bld [.bool true, .bool true, .bool (a0 == 3), .bool (a0 == 5), .bool (a0 == 7)] rfl (fun _ => by kernel_rfl)) ?_
        refine r_sb (vs := [.bool true, .bool true, .bool (a0 == 3), .bool (a0 == 5), .bool (a0 == 7)]) (j := 0) ty191 rfl rfl rfl rfl rfl rfl rfl ?_
        refine lj_seq ?_
        obtain rfl := Option.some.inj hm
        exact cj_rt () [] Tryz.results128 (.agg (k := 0) ty191 rfl rfl rfl .nil) rfl rfl
    · have hm := ifB_f hb hm
      refine lg false rfl rfl rfl ?_
      refine lp rfl (p_mv rfl) ?_
      refine lp rfl (p_pkf rfl rfl) ?_
      refine lp rfl (p_mv rfl) ?_
      refine lcase (i := 28) (a0 == 5) rfl (fun hb => ?_) (fun hb => ?_)
      · have hm := ifB_t hb hm
        refine ls false rfl rfl rfl rfl ?_
        refine ls false rfl rfl rfl rfl ?_
        refine lp rfl (p_pkt rfl rfl) ?_
        refine lp rfl (p_mv rfl) ?_
        refine lp rfl (p_mv rfl) ?_
        refine lcase (i := 33) (a0 == 1) rfl (fun hb => ?_) (fun hb => ?_)
        · have hm := ifB_t hb hm
          refine ls false rfl rfl rfl rfl ?_
          refine lp rfl (p_pkt rfl rfl) ?_
          refine lp rfl (p_mv rfl) ?_
          refine lp rfl (p_mv rfl) ?_
          refine lp rfl (p_eql rfl rfl) ?_
          refine lp rfl (p_bld [.bool true, .bool true, .bool true, .bool (a0 == 5), .bool (a0 == 7)] rfl (fun _ => by kernel_rfl)) ?_
          refine r_sb (vs := [.bool true, .bool true, .bool true, .bool (a0 == 5), .bool (a0 == 7)]) (j := 0) ty191 rfl rfl rfl rfl rfl rfl rfl ?_
          refine lj_seq ?_
          obtain rfl := Option.some.inj hm
          exact cj_rt () [] Tryz.results128 (.agg (k := 0) ty191 rfl rfl rfl .nil) rfl rfl
        · have hm := ifB_f hb hm
          refine lg false rfl rfl rfl ?_
          refine lp rfl (p_mv rfl) ?_
          refine lp rfl (p_pkf rfl rfl) ?_
          refine lp rfl (p_mv rfl) ?_
          refine lp rfl (p_mv rfl) ?_
          refine lp rfl (p_eql rfl rfl) ?_
          refine lp rfl (p_bld [.bool true, .bool true, .bool (a0 == 3), .bool (a0 == 5), .bool (a0 == 7)] rfl (fun _ => by kernel_rfl)) ?_
          refine r_sb (vs := [.bool true, .bool true, .bool (a0 == 3), .bool (a0 == 5), .bool (a0 == 7)]) (j := 0) ty191 rfl rfl rfl rfl rfl rfl rfl ?_
          refine lj_seq ?_
          obtain rfl := Option.some.inj hm
          exact cj_rt () [] Tryz.results128 (.agg (k := 0) ty191 rfl rfl rfl .nil) rfl rfl
      · have hm := ifB_f hb hm
        refine lg false rfl rfl rfl ?_
        refine lp rfl (p_mv rfl) ?_
        refine lg false rfl rfl rfl ?_
        refine lp rfl (p_eql rfl rfl) ?_
        refine lp rfl (p_pkf rfl rfl) ?_
        refine lp rfl (p_mv rfl) ?_
        refine lp rfl (p_mv rfl) ?_
        refine lcase (i := 33) (a0 == 1) rfl (fun hb => ?_) (fun hb => ?_)
        · have hm := ifB_t hb hm
          refine ls false rfl rfl rfl rfl ?_
          refine lp rfl (p_pkt rfl rfl) ?_
          refine lp rfl (p_mv rfl) ?_
          refine lp rfl (p_mv rfl) ?_
          refine lp rfl (p_eql rfl rfl) ?_
          refine lp rfl (p_bld [.bool true, .bool (a0 == 6), .bool true, .bool (a0 == 5), .bool (a0 == 7)] rfl (fun _ => by kernel_rfl)) ?_
          refine r_sb (vs := [.bool true, .bool (a0 == 6), .bool true, .bool (a0 == 5), .bool (a0 == 7)]) (j := 0) ty191 rfl rfl rfl rfl rfl rfl rfl ?_
          refine lj_seq ?_
          obtain rfl := Option.some.inj hm
          exact cj_rt () [] Tryz.results128 (.agg (k := 0) ty191 rfl rfl rfl .nil) rfl rfl
        · have hm := ifB_f hb hm
          refine lg false rfl rfl rfl ?_
          refine lp rfl (p_mv rfl) ?_
          refine lp rfl (p_pkf rfl rfl) ?_
          refine lp rfl (p_mv rfl) ?_
          refine lp rfl (p_mv rfl) ?_
          refine lp rfl (p_eql rfl rfl) ?_
          refine lp rfl (p_bld [.bool true, .bool (a0 == 6), .bool (a0 == 3), .bool (a0 == 5), .bool (a0 == 7)] rfl (fun _ => by kernel_rfl)) ?_
          refine r_sb (vs := [.bool true, .bool (a0 == 6), .bool (a0 == 3), .bool (a0 == 5), .bool (a0 == 7)]) (j := 0) ty191 rfl rfl rfl rfl rfl rfl rfl ?_
          refine lj_seq ?_
          obtain rfl := Option.some.inj hm
          exact cj_rt () [] Tryz.results128 (.agg (k := 0) ty191 rfl rfl rfl .nil) rfl rfl
  · have hm := ifB_f hb hm
    refine lg false rfl rfl rfl ?_
    refine lp rfl (p_mv rfl) ?_
    refine lg false rfl rfl rfl ?_
    refine lp rfl (p_eql rfl rfl) ?_
    refine lp rfl (p_pkf rfl rfl) ?_
    refine lp rfl (p_mv rfl) ?_
    refine lcase (i := 17) (a0 == 2) rfl (fun hb => ?_) (fun hb => ?_)
    · have hm := ifB_t hb hm
      refine ls false rfl rfl rfl rfl ?_
      refine lp rfl (p_pkt rfl rfl) ?_
      refine lp rfl (p_mv rfl) ?_
      refine ls false rfl rfl rfl rfl ?_
      refine lp rfl (p_pkt rfl rfl) ?_
      refine lp rfl (p_mv rfl) ?_
      refine lp rfl (p_eql rfl rfl) ?_
      refine lp rfl (p_mv rfl) ?_
      refine lcase (i := 25) (a0 == 4) rfl (fun hb => ?_) (fun hb => ?_)
      · have hm := ifB_t hb hm
        refine ls false rfl rfl rfl rfl ?_
        refine lp rfl (p_pkt rfl rfl) ?_
        refine lp rfl (p_mv rfl) ?_
        refine ls false rfl rfl rfl rfl ?_
        refine ls false rfl rfl rfl rfl ?_
        refine lp rfl (p_pkt rfl rfl) ?_
        refine lp rfl (p_mv rfl) ?_
        refine lp rfl (p_mv rfl) ?_
        refine lcase (i := 33) (a0 == 1) rfl (fun hb => ?_) (fun hb => ?_)
        · have hm := ifB_t hb hm
          refine ls false rfl rfl rfl rfl ?_
          refine lp rfl (p_pkt rfl rfl) ?_
          refine lp rfl (p_mv rfl) ?_
          refine lp rfl (p_mv rfl) ?_
          refine lp rfl (p_eql rfl rfl) ?_
          refine lp rfl (p_bld [.bool true, .bool true, .bool true, .bool (a0 == 5), .bool (a0 == 7)] rfl (fun _ => by kernel_rfl)) ?_
          refine r_sb (vs := [.bool true, .bool true, .bool true, .bool (a0 == 5), .bool (a0 == 7)]) (j := 0) ty191 rfl rfl rfl rfl rfl rfl rfl ?_
          refine lj_seq ?_
          obtain rfl := Option.some.inj hm
          exact cj_rt () [] Tryz.results128 (.agg (k := 0) ty191 rfl rfl rfl .nil) rfl rfl
        · have hm := ifB_f hb hm
          refine lg false rfl rfl rfl ?_
          refine lp rfl (p_mv rfl) ?_
          refine lp rfl (p_pkf rfl rfl) ?_
          refine lp rfl (p_mv rfl) ?_
          refine lp rfl (p_mv rfl) ?_
          refine lp rfl (p_eql rfl rfl) ?_
          refine lp rfl (p_bld [.bool true, .bool true, .bool (a0 == 3), .bool (a0 == 5), .bool (a0 == 7)] rfl (fun _ => by kernel_rfl)) ?_
          refine r_sb (vs := [.bool true, .bool true, .bool (a0 == 3), .bool (a0 == 5), .bool (a0 == 7)]) (j := 0) ty191 rfl rfl rfl rfl rfl rfl rfl ?_
          refine lj_seq ?_
          obtain rfl := Option.some.inj hm
          exact cj_rt () [] Tryz.results128 (.agg (k := 0) ty191 rfl rfl rfl .nil) rfl rfl
      · have hm := ifB_f hb hm
        refine lg false rfl rfl rfl ?_
        refine lp rfl (p_mv rfl) ?_
        refine lp rfl (p_pkf rfl rfl) ?_
        refine lp rfl (p_mv rfl) ?_
        refine lcase (i := 28) (a0 == 5) rfl (fun hb => ?_) (fun hb => ?_)
        · have hm := ifB_t hb hm
          refine ls false rfl rfl rfl rfl ?_
          refine ls false rfl rfl rfl rfl ?_
          refine lp rfl (p_pkt rfl rfl) ?_
          refine lp rfl (p_mv rfl) ?_
          refine lp rfl (p_mv rfl) ?_
          refine lcase (i := 33) (a0 == 1) rfl (fun hb => ?_) (fun hb => ?_)
          · have hm := ifB_t hb hm
            refine ls false rfl rfl rfl rfl ?_
            refine lp rfl (p_pkt rfl rfl) ?_
            refine lp rfl (p_mv rfl) ?_
            refine lp rfl (p_mv rfl) ?_
            refine lp rfl (p_eql rfl rfl) ?_
            refine lp rfl (p_bld [.bool true, .bool true, .bool true, .bool (a0 == 5), .bool (a0 == 7)] rfl (fun _ => by kernel_rfl)) ?_
            refine r_sb (vs := [.bool true, .bool true, .bool true, .bool (a0 == 5), .bool (a0 == 7)]) (j := 0) ty191 rfl rfl rfl rfl rfl rfl rfl ?_
            refine lj_seq ?_
            obtain rfl := Option.some.inj hm
            exact cj_rt () [] Tryz.results128 (.agg (k := 0) ty191 rfl rfl rfl .nil) rfl rfl
          · have hm := ifB_f hb hm
            refine lg false rfl rfl rfl ?_
            refine lp rfl (p_mv rfl) ?_
            refine lp rfl (p_pkf rfl rfl) ?_
            refine lp rfl (p_mv rfl) ?_
            refine lp rfl (p_mv rfl) ?_
            refine lp rfl (p_eql rfl rfl) ?_
            refine lp rfl (p_bld [.bool true, .bool true, .bool (a0 == 3), .bool (a0 == 5), .bool (a0 == 7)] rfl (fun _ => by kernel_rfl)) ?_
            refine r_sb (vs := [.bool true, .bool true, .bool (a0 == 3), .bool (a0 == 5), .bool (a0 == 7)]) (j := 0) ty191 rfl rfl rfl rfl rfl rfl rfl ?_
            refine lj_seq ?_
            obtain rfl := Option.some.inj hm
            exact cj_rt () [] Tryz.results128 (.agg (k := 0) ty191 rfl rfl rfl .nil) rfl rfl
        · have hm := ifB_f hb hm
          refine lg false rfl rfl rfl ?_
          refine lp rfl (p_mv rfl) ?_
          refine lg false rfl rfl rfl ?_
          refine lp rfl (p_eql rfl rfl) ?_
          refine lp rfl (p_pkf rfl rfl) ?_
          refine lp rfl (p_mv rfl) ?_
          refine lp rfl (p_mv rfl) ?_
          refine lcase (i := 33) (a0 == 1) rfl (fun hb => ?_) (fun hb => ?_)
          · have hm := ifB_t hb hm
            refine ls false rfl rfl rfl rfl ?_
            refine lp rfl (p_pkt rfl rfl) ?_
            refine lp rfl (p_mv rfl) ?_
            refine lp rfl (p_mv rfl) ?_
            refine lp rfl (p_eql rfl rfl) ?_
            refine lp rfl (p_bld [.bool true, .bool (a0 == 6), .bool true, .bool (a0 == 5), .bool (a0 == 7)] rfl (fun _ => by kernel_rfl)) ?_
            refine r_sb (vs := [.bool true, .bool (a0 == 6), .bool true, .bool (a0 == 5), .bool (a0 == 7)]) (j := 0) ty191 rfl rfl rfl rfl rfl rfl rfl ?_
            refine lj_seq ?_
            obtain rfl := Option.some.inj hm
            exact cj_rt () [] Tryz.results128 (.agg (k := 0) ty191 rfl rfl rfl .nil) rfl rfl
          · have hm := ifB_f hb hm
            refine lg false rfl rfl rfl ?_
            refine lp rfl (p_mv rfl) ?_
            refine lp rfl (p_pkf rfl rfl) ?_
            refine lp rfl (p_mv rfl) ?_
            refine lp rfl (p_mv rfl) ?_
            refine lp rfl (p_eql rfl rfl) ?_
            refine lp rfl (p_bld [.bool true, .bool (a0 == 6), .bool (a0 == 3), .bool (a0 == 5), .bool (a0 == 7)] rfl (fun _ => by kernel_rfl)) ?_
            refine r_sb (vs := [.bool true, .bool (a0 == 6), .bool (a0 == 3), .bool (a0 == 5), .bool (a0 == 7)]) (j := 0) ty191 rfl rfl rfl rfl rfl rfl rfl ?_
            refine lj_seq ?_
            obtain rfl := Option.some.inj hm
            exact cj_rt () [] Tryz.results128 (.agg (k := 0) ty191 rfl rfl rfl .nil) rfl rfl
    · have hm := ifB_f hb hm
      refine lg false rfl rfl rfl ?_
      refine lp rfl (p_mv rfl) ?_
      refine lp rfl (p_pkf rfl rfl) ?_
      refine lp rfl (p_mv rfl) ?_
      refine lcase (i := 20) (a0 == 3) rfl (fun hb => ?_) (fun hb => ?_)
      · have hm := ifB_t hb hm
        refine ls false rfl rfl rfl rfl ?_
        refine lp rfl (p_pkt rfl rfl) ?_
        refine lp rfl (p_mv rfl) ?_
        refine lp rfl (p_eql rfl rfl) ?_
        refine lp rfl (p_mv rfl) ?_
        refine lcase (i := 25) (a0 == 4) rfl (fun hb => ?_) (fun hb => ?_)
        · have hm := ifB_t hb hm
          refine ls false rfl rfl rfl rfl ?_
          refine lp rfl (p_pkt rfl rfl) ?_
          refine lp rfl (p_mv rfl) ?_
          refine ls false rfl rfl rfl rfl ?_
          refine ls false rfl rfl rfl rfl ?_
          refine lp rfl (p_pkt rfl rfl) ?_
          refine lp rfl (p_mv rfl) ?_
          refine lp rfl (p_mv rfl) ?_
          refine lcase (i := 33) (a0 == 1) rfl (fun hb => ?_) (fun hb => ?_)
          · have hm := ifB_t hb hm
            refine ls false rfl rfl rfl rfl ?_
            refine lp rfl (p_pkt rfl rfl) ?_
            refine lp rfl (p_mv rfl) ?_
            refine lp rfl (p_mv rfl) ?_
            refine lp rfl (p_eql rfl rfl) ?_
            refine lp rfl (p_bld [.bool true, .bool true, .bool true, .bool (a0 == 5), .bool (a0 == 7)] rfl (fun _ => by kernel_rfl)) ?_
            refine r_sb (vs := [.bool true, .bool true, .bool true, .bool (a0 == 5), .bool (a0 == 7)]) (j := 0) ty191 rfl rfl rfl rfl rfl rfl rfl ?_
            refine lj_seq ?_
            obtain rfl := Option.some.inj hm
            exact cj_rt () [] Tryz.results128 (.agg (k := 0) ty191 rfl rfl rfl .nil) rfl rfl
          · have hm := ifB_f hb hm
            refine lg false rfl rfl rfl ?_
            refine lp rfl (p_mv rfl) ?_
            refine lp rfl (p_pkf rfl rfl) ?_
            refine lp rfl (p_mv rfl) ?_
            refine lp rfl (p_mv rfl) ?_
            refine lp rfl (p_eql rfl rfl) ?_
            refine lp rfl (p_bld [.bool true, .bool true, .bool (a0 == 3), .bool (a0 == 5), .bool (a0 == 7)] rfl (fun _ => by kernel_rfl)) ?_
            refine r_sb (vs := [.bool true, .bool true, .bool (a0 == 3), .bool (a0 == 5), .bool (a0 == 7)]) (j := 0) ty191 rfl rfl rfl rfl rfl rfl rfl ?_
            refine lj_seq ?_
            obtain rfl := Option.some.inj hm
            exact cj_rt () [] Tryz.results128 (.agg (k := 0) ty191 rfl rfl rfl .nil) rfl rfl
        · have hm := ifB_f hb hm
          refine lg false rfl rfl rfl ?_
          refine lp rfl (p_mv rfl) ?_
          refine lp rfl (p_pkf rfl rfl) ?_
          refine lp rfl (p_mv rfl) ?_
          refine lcase (i := 28) (a0 == 5) rfl (fun hb => ?_) (fun hb => ?_)
          · have hm := ifB_t hb hm
            refine ls false rfl rfl rfl rfl ?_
            refine ls false rfl rfl rfl rfl ?_
            refine lp rfl (p_pkt rfl rfl) ?_
            refine lp rfl (p_mv rfl) ?_
            refine lp rfl (p_mv rfl) ?_
            refine lcase (i := 33) (a0 == 1) rfl (fun hb => ?_) (fun hb => ?_)
            · have hm := ifB_t hb hm
              refine ls false rfl rfl rfl rfl ?_
              refine lp rfl (p_pkt rfl rfl) ?_
              refine lp rfl (p_mv rfl) ?_
              refine lp rfl (p_mv rfl) ?_
              refine lp rfl (p_eql rfl rfl) ?_
              refine lp rfl (p_bld [.bool true, .bool true, .bool true, .bool (a0 == 5), .bool (a0 == 7)] rfl (fun _ => by kernel_rfl)) ?_
              refine r_sb (vs := [.bool true, .bool true, .bool true, .bool (a0 == 5), .bool (a0 == 7)]) (j := 0) ty191 rfl rfl rfl rfl rfl rfl rfl ?_
              refine lj_seq ?_
              obtain rfl := Option.some.inj hm
              exact cj_rt () [] Tryz.results128 (.agg (k := 0) ty191 rfl rfl rfl .nil) rfl rfl
            · have hm := ifB_f hb hm
              refine lg false rfl rfl rfl ?_
              refine lp rfl (p_mv rfl) ?_
              refine lp rfl (p_pkf rfl rfl) ?_
              refine lp rfl (p_mv rfl) ?_
              refine lp rfl (p_mv rfl) ?_
              refine lp rfl (p_eql rfl rfl) ?_
              refine lp rfl (p_bld [.bool true, .bool true, .bool (a0 == 3), .bool (a0 == 5), .bool (a0 == 7)] rfl (fun _ => by kernel_rfl)) ?_
              refine r_sb (vs := [.bool true, .bool true, .bool (a0 == 3), .bool (a0 == 5), .bool (a0 == 7)]) (j := 0) ty191 rfl rfl rfl rfl rfl rfl rfl ?_
              refine lj_seq ?_
              obtain rfl := Option.some.inj hm
              exact cj_rt () [] Tryz.results128 (.agg (k := 0) ty191 rfl rfl rfl .nil) rfl rfl
          · have hm := ifB_f hb hm
            refine lg false rfl rfl rfl ?_
            refine lp rfl (p_mv rfl) ?_
            refine lg false rfl rfl rfl ?_
            refine lp rfl (p_eql rfl rfl) ?_
            refine lp rfl (p_pkf rfl rfl) ?_
            refine lp rfl (p_mv rfl) ?_
            refine lp rfl (p_mv rfl) ?_
            refine lcase (i := 33) (a0 == 1) rfl (fun hb => ?_) (fun hb => ?_)
            · have hm := ifB_t hb hm
              refine ls false rfl rfl rfl rfl ?_
              refine lp rfl (p_pkt rfl rfl) ?_
              refine lp rfl (p_mv rfl) ?_
              refine lp rfl (p_mv rfl) ?_
              refine lp rfl (p_eql rfl rfl) ?_
              refine lp rfl (p_bld [.bool true, .bool (a0 == 6), .bool true, .bool (a0 == 5), .bool (a0 == 7)] rfl (fun _ => by kernel_rfl)) ?_
              refine r_sb (vs := [.bool true, .bool (a0 == 6), .bool true, .bool (a0 == 5), .bool (a0 == 7)]) (j := 0) ty191 rfl rfl rfl rfl rfl rfl rfl ?_
              refine lj_seq ?_
              obtain rfl := Option.some.inj hm
              exact cj_rt () [] Tryz.results128 (.agg (k := 0) ty191 rfl rfl rfl .nil) rfl rfl
            · have hm := ifB_f hb hm
              refine lg false rfl rfl rfl ?_
              refine lp rfl (p_mv rfl) ?_
              refine lp rfl (p_pkf rfl rfl) ?_
              refine lp rfl (p_mv rfl) ?_
              refine lp rfl (p_mv rfl) ?_
              refine lp rfl (p_eql rfl rfl) ?_
              refine lp rfl (p_bld [.bool true, .bool (a0 == 6), .bool (a0 == 3), .bool (a0 == 5), .bool (a0 == 7)] rfl (fun _ => by kernel_rfl)) ?_
              refine r_sb (vs := [.bool true, .bool (a0 == 6), .bool (a0 == 3), .bool (a0 == 5), .bool (a0 == 7)]) (j := 0) ty191 rfl rfl rfl rfl rfl rfl rfl ?_
              refine lj_seq ?_
              obtain rfl := Option.some.inj hm
              exact cj_rt () [] Tryz.results128 (.agg (k := 0) ty191 rfl rfl rfl .nil) rfl rfl
      · have hm := ifB_f hb hm
        refine lg false rfl rfl rfl ?_
        refine lp rfl (p_mv rfl) ?_
        refine lp rfl (p_pkf rfl rfl) ?_
        refine lp rfl (p_mv rfl) ?_
        refine lp rfl (p_eql rfl rfl) ?_
        refine lp rfl (p_mv rfl) ?_
        refine lcase (i := 25) (a0 == 4) rfl (fun hb => ?_) (fun hb => ?_)
        · have hm := ifB_t hb hm
          refine ls false rfl rfl rfl rfl ?_
          refine lp rfl (p_pkt rfl rfl) ?_
          refine lp rfl (p_mv rfl) ?_
          refine ls false rfl rfl rfl rfl ?_
          refine ls false rfl rfl rfl rfl ?_
          refine lp rfl (p_pkt rfl rfl) ?_
          refine lp rfl (p_mv rfl) ?_
          refine lp rfl (p_mv rfl) ?_
          refine lcase (i := 33) (a0 == 1) rfl (fun hb => ?_) (fun hb => ?_)
          · have hm := ifB_t hb hm
            refine ls false rfl rfl rfl rfl ?_
            refine lp rfl (p_pkt rfl rfl) ?_
            refine lp rfl (p_mv rfl) ?_
            refine lp rfl (p_mv rfl) ?_
            refine lp rfl (p_eql rfl rfl) ?_
            refine lp rfl (p_bld [.bool (a0 == 5), .bool true, .bool true, .bool (a0 == 5), .bool (a0 == 7)] rfl (fun _ => by kernel_rfl)) ?_
            refine r_sb (vs := [.bool (a0 == 5), .bool true, .bool true, .bool (a0 == 5), .bool (a0 == 7)]) (j := 0) ty191 rfl rfl rfl rfl rfl rfl rfl ?_
            refine lj_seq ?_
            obtain rfl := Option.some.inj hm
            exact cj_rt () [] Tryz.results128 (.agg (k := 0) ty191 rfl rfl rfl .nil) rfl rfl
          · have hm := ifB_f hb hm
            refine lg false rfl rfl rfl ?_
            refine lp rfl (p_mv rfl) ?_
            refine lp rfl (p_pkf rfl rfl) ?_
            refine lp rfl (p_mv rfl) ?_
            refine lp rfl (p_mv rfl) ?_
            refine lp rfl (p_eql rfl rfl) ?_
            refine lp rfl (p_bld [.bool (a0 == 5), .bool true, .bool (a0 == 3), .bool (a0 == 5), .bool (a0 == 7)] rfl (fun _ => by kernel_rfl)) ?_
            refine r_sb (vs := [.bool (a0 == 5), .bool true, .bool (a0 == 3), .bool (a0 == 5), .bool (a0 == 7)]) (j := 0) ty191 rfl rfl rfl rfl rfl rfl rfl ?_
            refine lj_seq ?_
            obtain rfl := Option.some.inj hm
            exact cj_rt () [] Tryz.results128 (.agg (k := 0) ty191 rfl rfl rfl .nil) rfl rfl
        · have hm := ifB_f hb hm
          refine lg false rfl rfl rfl ?_
          refine lp rfl (p_mv rfl) ?_
          refine lp rfl (p_pkf rfl rfl) ?_
          refine lp rfl (p_mv rfl) ?_
          refine lcase (i := 28) (a0 == 5) rfl (fun hb => ?_) (fun hb => ?_)
          · have hm := ifB_t hb hm
            refine ls false rfl rfl rfl rfl ?_
            refine ls false rfl rfl rfl rfl ?_
            refine lp rfl (p_pkt rfl rfl) ?_
            refine lp rfl (p_mv rfl) ?_
            refine lp rfl (p_mv rfl) ?_
            refine lcase (i := 33) (a0 == 1) rfl (fun hb => ?_) (fun hb => ?_)
            · have hm := ifB_t hb hm
              refine ls false rfl rfl rfl rfl ?_
              refine lp rfl (p_pkt rfl rfl) ?_
              refine lp rfl (p_mv rfl) ?_
              refine lp rfl (p_mv rfl) ?_
              refine lp rfl (p_eql rfl rfl) ?_
              refine lp rfl (p_bld [.bool (a0 == 5), .bool true, .bool true, .bool (a0 == 5), .bool (a0 == 7)] rfl (fun _ => by kernel_rfl)) ?_
              refine r_sb (vs := [.bool (a0 == 5), .bool true, .bool true, .bool (a0 == 5), .bool (a0 == 7)]) (j := 0) ty191 rfl rfl rfl rfl rfl rfl rfl ?_
              refine lj_seq ?_
              obtain rfl := Option.some.inj hm
              exact cj_rt () [] Tryz.results128 (.agg (k := 0) ty191 rfl rfl rfl .nil) rfl rfl
            · have hm := ifB_f hb hm
              refine lg false rfl rfl rfl ?_
              refine lp rfl (p_mv rfl) ?_
              refine lp rfl (p_pkf rfl rfl) ?_
              refine lp rfl (p_mv rfl) ?_
              refine lp rfl (p_mv rfl) ?_
              refine lp rfl (p_eql rfl rfl) ?_
              refine lp rfl (p_bld [.bool (a0 == 5), .bool true, .bool (a0 == 3), .bool (a0 == 5), .bool (a0 == 7)] rfl (fun _ => by kernel_rfl)) ?_
              refine r_sb (vs := [.bool (a0 == 5), .bool true, .bool (a0 == 3), .bool (a0 == 5), .bool (a0 == 7)]) (j := 0) ty191 rfl rfl rfl rfl rfl rfl rfl ?_
              refine lj_seq ?_
              obtain rfl := Option.some.inj hm
              exact cj_rt () [] Tryz.results128 (.agg (k := 0) ty191 rfl rfl rfl .nil) rfl rfl
          · have hm := ifB_f hb hm
            refine lg false rfl rfl rfl ?_
            refine lp rfl (p_mv rfl) ?_
            refine lg false rfl rfl rfl ?_
            refine lp rfl (p_eql rfl rfl) ?_
            refine lp rfl (p_pkf rfl rfl) ?_
            refine lp rfl (p_mv rfl) ?_
            refine lp rfl (p_mv rfl) ?_
            refine lcase (i := 33) (a0 == 1) rfl (fun hb => ?_) (fun hb => ?_)
            · have hm := ifB_t hb hm
              refine ls false rfl rfl rfl rfl ?_
              refine lp rfl (p_pkt rfl rfl) ?_
              refine lp rfl (p_mv rfl) ?_
              refine lp rfl (p_mv rfl) ?_
              refine lp rfl (p_eql rfl rfl) ?_
              refine lp rfl (p_bld [.bool (a0 == 5), .bool (a0 == 6), .bool true, .bool (a0 == 5), .bool (a0 == 7)] rfl (fun _ => by kernel_rfl)) ?_
              refine r_sb (vs := [.bool (a0 == 5), .bool (a0 == 6), .bool true, .bool (a0 == 5), .bool (a0 == 7)]) (j := 0) ty191 rfl rfl rfl rfl rfl rfl rfl ?_
              refine lj_seq ?_
              obtain rfl := Option.some.inj hm
              exact cj_rt () [] Tryz.results128 (.agg (k := 0) ty191 rfl rfl rfl .nil) rfl rfl
            · have hm := ifB_f hb hm
              refine lg false rfl rfl rfl ?_
              refine lp rfl (p_mv rfl) ?_
              refine lp rfl (p_pkf rfl rfl) ?_
              refine lp rfl (p_mv rfl) ?_
              refine lp rfl (p_mv rfl) ?_
              refine lp rfl (p_eql rfl rfl) ?_
              refine lp rfl (p_bld [.bool (a0 == 5), .bool (a0 == 6), .bool (a0 == 3), .bool (a0 == 5), .bool (a0 == 7)] rfl (fun _ => by kernel_rfl)) ?_
              refine r_sb (vs := [.bool (a0 == 5), .bool (a0 == 6), .bool (a0 == 3), .bool (a0 == 5), .bool (a0 == 7)]) (j := 0) ty191 rfl rfl rfl rfl rfl rfl rfl ?_
              refine lj_seq ?_
              obtain rfl := Option.some.inj hm
              exact cj_rt () [] Tryz.results128 (.agg (k := 0) ty191 rfl rfl rfl .nil) rfl rfl
theorem ok_club_formed (a0 : TAct) {r : Int} (hm : m_club_formed a0 = some r) :
    Ctr Tryz.prog 106 [.agg (R72.enc a0).toArray].toArray ([] : List Ent) [] (X := Unit) (fun _ => .int .i64 r) (fun _ => []) := by
  unfold m_club_formed at hm
  refine ctr_mk (vs := [(0, .agg (R72.enc a0).toArray)]) Tryz.func106 rfl Tryz.ntmps106 rfl ⟨rfl, trivial⟩ (fun w0 A => ?_)
  refine cj_seq ?_
  refine cj_reg ?_
  refine r_bx (cs := [.string a0.Site, .int .i64 a0.No, .int .i64 a0.At, .int .i64 a0.Kind, .string a0.Who, .string a0.Motion, .int .i64 a0.Cents, .bool a0.Yes, .string a0.Of, .int .i64 a0.Other]) rfl rfl rfl (fun b1 => ?_)
  refine lp rfl (p_as rfl) ?_
  refine lj_seq ?_
  refine cj_seq ?_
  refine cj_blk ?_
  refine cj_seq ?_
  refine cj_reg ?_
  refine lp rfl (p_fab fl72_0 rfl) ?_
  refine lp rfl (p_lbs ty9 rfl (j := 0) rfl rfl) ?_
  obtain ⟨y2, hy2, hm⟩ := bindS hm
  refine r_call [] cf43 rfl rfl (ok_kit_IsKey a0.Site hy2) rfl rfl .nil (fun _ => rfl) rfl (fun _ => ?_)
  refine lp rfl (p_not rfl) ?_
  refine lp rfl (p_as rfl) ?_
  refine lj_seq ?_
  refine cj_if (b := !y2) rfl (fun hb => ?_) (fun hb => ?_)
  · have hm := ifB_t hb hm
    refine cj_seq ?_
    refine cj_reg ?_
    refine lp rfl (p_as rfl) ?_
    refine lj_seq ?_
    obtain rfl := Option.some.inj hm
    exact cj_rt () [] Tryz.results106 (.tmp rfl .nil) rfl rfl
  · have hm := ifB_f hb hm
    refine cj_seq ?_
    refine cj_reg ?_
    obtain ⟨k5, hk5, hm⟩ := bindS hm
    have hRk5 : ∀ t, k5 = .inr t → some t = some r := fun t e => by rw [e] at hm; exact hm
    refine lj_join (σ := Bool) (γ := Unit) (fun u3 => k5 = .inl u3) (fun u3 g4 => [(1, .pointer (some ⟨b1, 0, none⟩)), (2, .int .i64 0), (10, .bool u3)]) (fun u3 g4 => Sat w0 (keys ([] : List Ent)) A [.box b1 72 [.string a0.Site, .int .i64 a0.No, .int .i64 a0.At, .int .i64 a0.Kind, .string a0.Who, .string a0.Motion, .int .i64 a0.Cents, .bool a0.Yes, .string a0.Of, .int .i64 a0.Other]]) (fun u3 g4 hq => ?_) (fun J cnk5 => ?_)
    · have hm := Sum.fin_l hq hm
      refine cj_if (b := u3) rfl (fun hb => ?_) (fun hb => ?_)
      · have hm := ifB_t hb hm
        refine cj_seq ?_
        refine cj_reg ?_
        refine lp rfl (p_as rfl) ?_
        refine lj_seq ?_
        obtain rfl := Option.some.inj hm
        exact cj_rt () [] Tryz.results106 (.tmp rfl .nil) rfl rfl
      · have hm := ifB_f hb hm
        refine cj_seq ?_
        refine cj_reg ?_
        refine lp rfl (p_fab fl72_3 rfl) ?_
        refine lp rfl (p_lbs ty3 rfl (j := 0) rfl rfl) ?_
        obtain ⟨y8, hy8, hm⟩ := bindS hm
        refine r_call [] cf26 rfl rfl (ok_kit_Outside a0.Kind 1 7 hy8) rfl rfl .nil (fun _ => rfl) rfl (fun _ => ?_)
        refine lp rfl (p_as rfl) ?_
        refine lj_seq ?_
        refine cj_if (b := y8) rfl (fun hb => ?_) (fun hb => ?_)
        · have hm := ifB_t hb hm
          refine cj_seq ?_
          refine cj_reg ?_
          refine lp rfl (p_as rfl) ?_
          refine lj_seq ?_
          obtain rfl := Option.some.inj hm
          exact cj_rt () [] Tryz.results106 (.tmp rfl .nil) rfl rfl
        · have hm := ifB_f hb hm
          refine cj_skip ?_
          refine nj_blk ?_
          refine nj_seq ?_
          refine cj_seq ?_
          refine cj_reg ?_
          refine lp rfl (p_fab fl72_3 rfl) ?_
          refine lp rfl (p_lbs ty3 rfl (j := 0) rfl rfl) ?_
          obtain ⟨y9, hy9, hm⟩ := bindS hm
          refine r_call [] cf128 rfl rfl (ok_club_usesOf a0.Kind hy9) rfl rfl .nil (fun _ => rfl) rfl (fun _ => ?_)
          refine r_al ty191 rfl (fun b10 => ?_)
          refine r_sb (vs := [.bool y9.who, .bool y9.motion, .bool y9.cents, .bool y9.yes, .bool y9.undo]) (j := 0) ty191 rfl rfl rfl rfl rfl rfl rfl ?_
          refine lj_seq ?_
          refine cj_seq ?_
          refine cj_reg ?_
          refine lp rfl (p_as rfl) ?_
          refine lj_seq ?_
          refine cj_seq ?_
          refine cj_seq ?_
          refine cj_reg ?_
          refine lp rfl (p_fab fl72_3 rfl) ?_
          refine lp rfl (p_lbs ty3 rfl (j := 1) rfl rfl) ?_
          refine lp rfl (p_eql rfl rfl) ?_
          refine lj_seq ?_
          obtain ⟨k13, hk13, hm⟩ := bindS hm
          have hRk13 : ∀ t, k13 = .inr t → some t = some r := fun t e => by rw [e] at hm; exact hm
          refine cj_joinK (σ := Int) (γ := Unit) (fun u11 => k13 = .inl u11) (fun u11 g12 => [(1, .pointer (some ⟨b1, 0, none⟩)), (2, .int .i64 0), (3, .pointer (some ⟨b10, 0, none⟩)), (4, .int .i64 u11)]) (fun u11 g12 => Sat w0 (keys ([] : List Ent)) A [.box b10 191 [.bool y9.who, .bool y9.motion, .bool y9.cents, .bool y9.yes, .bool y9.undo], .box b1 72 [.string a0.Site, .int .i64 a0.No, .int .i64 a0.At, .int .i64 a0.Kind, .string a0.Who, .string a0.Motion, .int .i64 a0.Cents, .bool a0.Yes, .string a0.Of, .int .i64 a0.Other]]) (fun u11 g12 hq => ?_) (fun J cnk13 => ?_)
          · have hm := Sum.fin_l hq hm
            refine cj_seq ?_
            refine cj_blk ?_
            refine cj_seq ?_
            refine cj_reg ?_
            obtain ⟨k16, hk16, hm⟩ := bindS hm
            have hRk16 : ∀ t, k16 = .inr t → some t = some r := fun t e => by rw [e] at hm; exact hm
            refine lj_join (σ := Bool) (γ := Unit) (fun u14 => k16 = .inl u14) (fun u14 g15 => [(1, .pointer (some ⟨b1, 0, none⟩)), (2, .int .i64 0), (3, .pointer (some ⟨b10, 0, none⟩)), (4, .int .i64 u11), (30, .bool u14)]) (fun u14 g15 => Sat w0 (keys ([] : List Ent)) A [.box b10 191 [.bool y9.who, .bool y9.motion, .bool y9.cents, .bool y9.yes, .bool y9.undo], .box b1 72 [.string a0.Site, .int .i64 a0.No, .int .i64 a0.At, .int .i64 a0.Kind, .string a0.Who, .string a0.Motion, .int .i64 a0.Cents, .bool a0.Yes, .string a0.Of, .int .i64 a0.Other]]) (fun u14 g15 hq => ?_) (fun J cnk16 => ?_)
            · have hm := Sum.fin_l hq hm
              refine cj_if (b := u14) rfl (fun hb => ?_) (fun hb => ?_)
              · have hm := ifB_t hb hm
                refine cj_seq ?_
                refine cj_reg ?_
                refine lp rfl (p_as rfl) ?_
                refine lj_seq ?_
                obtain rfl := Option.some.inj hm
                exact cj_rt () [] Tryz.results106 (.tmp rfl .nil) rfl rfl
              · have hm := ifB_f hb hm
                refine cj_seq ?_
                refine cj_reg ?_
                obtain ⟨k26, hk26, hm⟩ := bindS hm
                have hRk26 : ∀ t, k26 = .inr t → some t = some r := fun t e => by rw [e] at hm; exact hm
                refine lj_join (σ := Bool) (γ := Unit) (fun u24 => k26 = .inl u24) (fun u24 g25 => [(1, .pointer (some ⟨b1, 0, none⟩)), (2, .int .i64 0), (3, .pointer (some ⟨b10, 0, none⟩)), (59, .bool u24)]) (fun u24 g25 => Sat w0 (keys ([] : List Ent)) A [.box b10 191 [.bool y9.who, .bool y9.motion, .bool y9.cents, .bool y9.yes, .bool y9.undo], .box b1 72 [.string a0.Site, .int .i64 a0.No, .int .i64 a0.At, .int .i64 a0.Kind, .string a0.Who, .string a0.Motion, .int .i64 a0.Cents, .bool a0.Yes, .string a0.Of, .int .i64 a0.Other]]) (fun u24 g25 hq => ?_) (fun J cnk26 => ?_)
                · have hm := Sum.fin_l hq hm
                  refine cj_if (b := u24) rfl (fun hb => ?_) (fun hb => ?_)
                  · have hm := ifB_t hb hm
                    refine cj_seq ?_
                    refine cj_reg ?_
                    refine lp rfl (p_as rfl) ?_
                    refine lj_seq ?_
                    obtain rfl := Option.some.inj hm
                    exact cj_rt () [] Tryz.results106 (.tmp rfl .nil) rfl rfl
                  · have hm := ifB_f hb hm
                    refine cj_seq ?_
                    refine cj_reg ?_
                    obtain ⟨k32, hk32, hm⟩ := bindS hm
                    have hRk32 : ∀ t, k32 = .inr t → some t = some r := fun t e => by rw [e] at hm; exact hm
                    refine lj_join (σ := Bool) (γ := Unit) (fun u30 => k32 = .inl u30) (fun u30 g31 => [(2, .int .i64 0), (77, .bool u30)]) (fun u30 g31 => Sat w0 (keys ([] : List Ent)) A []) (fun u30 g31 hq => ?_) (fun J cnk32 => ?_)
                    · have hm := Sum.fin_l hq hm
                      refine cj_if (b := u30) rfl (fun hb => ?_) (fun hb => ?_)
                      · have hm := ifB_t hb hm
                        refine cj_seq ?_
                        refine cj_reg ?_
                        refine lp rfl (p_as rfl) ?_
                        refine lj_seq ?_
                        obtain rfl := Option.some.inj hm
                        exact cj_rt () [] Tryz.results106 (.tmp rfl .nil) rfl rfl
                      · have hm := ifB_f hb hm
                        refine cj_skip ?_
                        refine nj_blk ?_
                        refine nj_seq ?_
                        refine cj_seq ?_
                        refine cj_reg ?_
                        refine lp rfl (p_as rfl) ?_
                        refine lj_seq ?_
                        obtain rfl := Option.some.inj hm
                        exact cj_rt () [] Tryz.results106 (.tmp rfl .nil) rfl rfl
                    · have hm := hk32
                      refine lp rfl (p_fab fl191_0 rfl) ?_
                      refine lp rfl (p_lbs ty4 rfl (j := 0) rfl rfl) ?_
                      refine lp rfl (p_not rfl) ?_
                      refine lp rfl (p_mv rfl) ?_
                      refine lcase (i := 81) (!y9.who) rfl (fun hb => ?_) (fun hb => ?_)
                      · have hm := ifB_t hb hm
                        refine lg true rfl rfl rfl ?_
                        refine lp rfl (p_fab fl72_4 rfl) ?_
                        refine lg true rfl rfl rfl ?_
                        refine lp rfl (p_lbs ty9 rfl (j := 1) rfl rfl) ?_
                        refine lg true rfl rfl rfl ?_
                        refine lp rfl (p_nes rfl rfl) ?_
                        refine lp rfl (p_pkt rfl rfl) ?_
                        refine lp rfl (p_mv rfl) ?_
                        refine lcase (i := 86) (!(a0.Who.toList == ByteArray.empty.toList)) rfl (fun hb => ?_) (fun hb => ?_)
                        · have hm := ifB_t hb hm
                          refine ls false rfl rfl rfl rfl ?_
                          refine ls false rfl rfl rfl rfl ?_
                          refine ls false rfl rfl rfl rfl ?_
                          refine ls false rfl rfl rfl rfl ?_
                          refine lsu rfl rfl rfl rfl ?_
                          refine lsu rfl rfl rfl rfl ?_
                          refine lsu rfl rfl rfl rfl ?_
                          refine ls false rfl rfl rfl rfl ?_
                          refine lp rfl (p_pkt rfl rfl) ?_
                          refine lp rfl (p_mv rfl) ?_
                          refine ls false rfl rfl rfl rfl ?_
                          refine ls false rfl rfl rfl rfl ?_
                          refine ls false rfl rfl rfl rfl ?_
                          refine ls false rfl rfl rfl rfl ?_
                          refine lsu rfl rfl rfl rfl ?_
                          refine lsu rfl rfl rfl rfl ?_
                          refine lsu rfl rfl rfl rfl ?_
                          refine ls false rfl rfl rfl rfl ?_
                          refine lp rfl (p_pkt rfl rfl) ?_
                          refine lp rfl (p_mv rfl) ?_
                          refine ls false rfl rfl rfl rfl ?_
                          refine ls false rfl rfl rfl rfl ?_
                          refine ls false rfl rfl rfl rfl ?_
                          refine ls false rfl rfl rfl rfl ?_
                          refine lsu rfl rfl rfl rfl ?_
                          refine lsu rfl rfl rfl rfl ?_
                          refine ls false rfl rfl rfl rfl ?_
                          refine lp rfl (p_pkt rfl rfl) ?_
                          refine lp rfl (p_mv rfl) ?_
                          refine ls false rfl rfl rfl rfl ?_
                          refine ls false rfl rfl rfl rfl ?_
                          refine ls false rfl rfl rfl rfl ?_
                          refine ls false rfl rfl rfl rfl ?_
                          refine lsu rfl rfl rfl rfl ?_
                          refine lsu rfl rfl rfl rfl ?_
                          refine lsu rfl rfl rfl rfl ?_
                          refine lsu rfl rfl rfl rfl ?_
                          refine lsu rfl rfl rfl rfl ?_
                          refine lsu rfl rfl rfl rfl ?_
                          refine lsu rfl rfl rfl rfl ?_
                          refine lsu rfl rfl rfl rfl ?_
                          refine ls false rfl rfl rfl rfl ?_
                          refine lp rfl (p_pkt rfl rfl) ?_
                          refine lp rfl (p_as rfl) ?_
                          refine lj_nil ?_
                          exact cnk32 _ _ true () (Option.some.inj hm).symm ⟨rfl, rfl, trivial⟩ (fun _ h => h.picks [] rfl)
                        · have hm := ifB_f hb hm
                          refine lg false rfl rfl rfl ?_
                          refine lp rfl (p_fab fl191_1 rfl) ?_
                          refine lg false rfl rfl rfl ?_
                          refine lp rfl (p_lbs ty4 rfl (j := 0) rfl rfl) ?_
                          refine lg false rfl rfl rfl ?_
                          refine lp rfl (p_not rfl) ?_
                          refine lg false rfl rfl rfl ?_
                          refine lp rfl (p_mv rfl) ?_
                          refine lcase (i := 90) (!y9.motion) rfl (fun hb => ?_) (fun hb => ?_)
                          · have hm := ifB_t hb hm
                            refine lg true rfl rfl rfl ?_
                            refine lp rfl (p_fab fl72_5 rfl) ?_
                            refine lg true rfl rfl rfl ?_
                            refine lp rfl (p_lbs ty9 rfl (j := 1) rfl rfl) ?_
                            refine lg true rfl rfl rfl ?_
                            refine lp rfl (p_nes rfl rfl) ?_
                            refine lg false rfl rfl rfl ?_
                            refine lp rfl (p_pkt rfl rfl) ?_
                            refine lp rfl (p_pkf rfl rfl) ?_
                            refine lp rfl (p_mv rfl) ?_
                            refine lcase (i := 96) (!(a0.Motion.toList == ByteArray.empty.toList)) rfl (fun hb => ?_) (fun hb => ?_)
                            · have hm := ifB_t hb hm
                              refine ls false rfl rfl rfl rfl ?_
                              refine ls false rfl rfl rfl rfl ?_
                              refine ls false rfl rfl rfl rfl ?_
                              refine ls false rfl rfl rfl rfl ?_
                              refine lsu rfl rfl rfl rfl ?_
                              refine lsu rfl rfl rfl rfl ?_
                              refine lsu rfl rfl rfl rfl ?_
                              refine ls false rfl rfl rfl rfl ?_
                              refine lp rfl (p_pkt rfl rfl) ?_
                              refine lp rfl (p_mv rfl) ?_
                              refine ls false rfl rfl rfl rfl ?_
                              refine ls false rfl rfl rfl rfl ?_
                              refine ls false rfl rfl rfl rfl ?_
                              refine ls false rfl rfl rfl rfl ?_
                              refine lsu rfl rfl rfl rfl ?_
                              refine lsu rfl rfl rfl rfl ?_
                              refine ls false rfl rfl rfl rfl ?_
                              refine lp rfl (p_pkt rfl rfl) ?_
                              refine lp rfl (p_mv rfl) ?_
                              refine ls false rfl rfl rfl rfl ?_
                              refine ls false rfl rfl rfl rfl ?_
                              refine ls false rfl rfl rfl rfl ?_
                              refine ls false rfl rfl rfl rfl ?_
                              refine lsu rfl rfl rfl rfl ?_
                              refine lsu rfl rfl rfl rfl ?_
                              refine lsu rfl rfl rfl rfl ?_
                              refine lsu rfl rfl rfl rfl ?_
                              refine lsu rfl rfl rfl rfl ?_
                              refine lsu rfl rfl rfl rfl ?_
                              refine lsu rfl rfl rfl rfl ?_
                              refine lsu rfl rfl rfl rfl ?_
                              refine ls false rfl rfl rfl rfl ?_
                              refine lp rfl (p_pkt rfl rfl) ?_
                              refine lp rfl (p_as rfl) ?_
                              refine lj_nil ?_
                              exact cnk32 _ _ true () (Option.some.inj hm).symm ⟨rfl, rfl, trivial⟩ (fun _ h => h.picks [] rfl)
                            · have hm := ifB_f hb hm
                              refine lg false rfl rfl rfl ?_
                              refine lp rfl (p_fab fl191_2 rfl) ?_
                              refine lg false rfl rfl rfl ?_
                              refine lp rfl (p_lbs ty4 rfl (j := 0) rfl rfl) ?_
                              refine lg false rfl rfl rfl ?_
                              refine lp rfl (p_not rfl) ?_
                              refine lg false rfl rfl rfl ?_
                              refine lp rfl (p_mv rfl) ?_
                              refine lcase (i := 100) (!y9.cents) rfl (fun hb => ?_) (fun hb => ?_)
                              · have hm := ifB_t hb hm
                                refine lg true rfl rfl rfl ?_
                                refine lp rfl (p_fab fl72_6 rfl) ?_
                                refine lg true rfl rfl rfl ?_
                                refine lp rfl (p_lbs ty3 rfl (j := 1) rfl rfl) ?_
                                refine lg true rfl rfl rfl ?_
                                refine lp rfl (p_neq rfl rfl) ?_
                                refine lg false rfl rfl rfl ?_
                                refine lp rfl (p_pkt rfl rfl) ?_
                                refine lp rfl (p_pkf rfl rfl) ?_
                                refine lp rfl (p_mv rfl) ?_
                                refine lcase (i := 106) (a0.Cents != 0) rfl (fun hb => ?_) (fun hb => ?_)
                                · have hm := ifB_t hb hm
                                  refine ls false rfl rfl rfl rfl ?_
                                  refine ls false rfl rfl rfl rfl ?_
                                  refine ls false rfl rfl rfl rfl ?_
                                  refine ls false rfl rfl rfl rfl ?_
                                  refine lsu rfl rfl rfl rfl ?_
                                  refine lsu rfl rfl rfl rfl ?_
                                  refine ls false rfl rfl rfl rfl ?_
                                  refine lp rfl (p_pkt rfl rfl) ?_
                                  refine lp rfl (p_mv rfl) ?_
                                  refine ls false rfl rfl rfl rfl ?_
                                  refine ls false rfl rfl rfl rfl ?_
                                  refine ls false rfl rfl rfl rfl ?_
                                  refine ls false rfl rfl rfl rfl ?_
                                  refine lsu rfl rfl rfl rfl ?_
                                  refine lsu rfl rfl rfl rfl ?_
                                  refine lsu rfl rfl rfl rfl ?_
                                  refine lsu rfl rfl rfl rfl ?_
                                  refine lsu rfl rfl rfl rfl ?_
                                  refine lsu rfl rfl rfl rfl ?_
                                  refine lsu rfl rfl rfl rfl ?_
                                  refine lsu rfl rfl rfl rfl ?_
                                  refine ls false rfl rfl rfl rfl ?_
                                  refine lp rfl (p_pkt rfl rfl) ?_
                                  refine lp rfl (p_as rfl) ?_
                                  refine lj_nil ?_
                                  exact cnk32 _ _ true () (Option.some.inj hm).symm ⟨rfl, rfl, trivial⟩ (fun _ h => h.picks [] rfl)
                                · have hm := ifB_f hb hm
                                  refine lg false rfl rfl rfl ?_
                                  refine lp rfl (p_fab fl191_3 rfl) ?_
                                  refine lg false rfl rfl rfl ?_
                                  refine lp rfl (p_lbs ty4 rfl (j := 0) rfl rfl) ?_
                                  refine lg false rfl rfl rfl ?_
                                  refine lp rfl (p_not rfl) ?_
                                  refine lg false rfl rfl rfl ?_
                                  refine lp rfl (p_mv rfl) ?_
                                  refine lcase (i := 110) (!y9.yes) rfl (fun hb => ?_) (fun hb => ?_)
                                  · have hm := ifB_t hb hm
                                    refine lg true rfl rfl rfl ?_
                                    refine lp rfl (p_fab fl72_7 rfl) ?_
                                    refine lg true rfl rfl rfl ?_
                                    refine lp rfl (p_lbs ty4 rfl (j := 1) rfl rfl) ?_
                                    refine lg false rfl rfl rfl ?_
                                    refine lp rfl (p_pkt rfl rfl) ?_
                                    refine lp rfl (p_pkf rfl rfl) ?_
                                    refine lp rfl (p_mv rfl) ?_
                                    refine lcase (i := 115) a0.Yes rfl (fun hb => ?_) (fun hb => ?_)
                                    · have hm := ifB_t hb hm
                                      refine ls false rfl rfl rfl rfl ?_
                                      refine ls false rfl rfl rfl rfl ?_
                                      refine ls false rfl rfl rfl rfl ?_
                                      refine ls false rfl rfl rfl rfl ?_
                                      refine lsu rfl rfl rfl rfl ?_
                                      refine lsu rfl rfl rfl rfl ?_
                                      refine lsu rfl rfl rfl rfl ?_
                                      refine lsu rfl rfl rfl rfl ?_
                                      refine lsu rfl rfl rfl rfl ?_
                                      refine lsu rfl rfl rfl rfl ?_
                                      refine lsu rfl rfl rfl rfl ?_
                                      refine lsu rfl rfl rfl rfl ?_
                                      refine ls false rfl rfl rfl rfl ?_
                                      refine lp rfl (p_pkt rfl rfl) ?_
                                      refine lp rfl (p_as rfl) ?_
                                      refine lj_nil ?_
                                      exact cnk32 _ _ true () (Option.some.inj hm).symm ⟨rfl, rfl, trivial⟩ (fun _ h => h.picks [] rfl)
                                    · have hm := ifB_f hb hm
                                      refine lg false rfl rfl rfl ?_
                                      refine lp rfl (p_fab fl191_4 rfl) ?_
                                      refine lg false rfl rfl rfl ?_
                                      refine lp rfl (p_lbs ty4 rfl (j := 0) rfl rfl) ?_
                                      refine lg false rfl rfl rfl ?_
                                      refine lp rfl (p_not rfl) ?_
                                      refine lg false rfl rfl rfl ?_
                                      refine lp rfl (p_mv rfl) ?_
                                      refine lcase (i := 119) (!y9.undo) rfl (fun hb => ?_) (fun hb => ?_)
                                      · have hm := ifB_t hb hm
                                        refine lg true rfl rfl rfl ?_
                                        refine lp rfl (p_fab fl72_8 rfl) ?_
                                        refine lg true rfl rfl rfl ?_
                                        refine lp rfl (p_lbs ty9 rfl (j := 1) rfl rfl) ?_
                                        refine lg true rfl rfl rfl ?_
                                        refine lp rfl (p_nes rfl rfl) ?_
                                        refine lg true rfl rfl rfl ?_
                                        refine lp rfl (p_mv rfl) ?_
                                        refine lcase (i := 123) (!(a0.Of.toList == ByteArray.empty.toList)) rfl (fun hb => ?_) (fun hb => ?_)
                                        · have hm := ifB_t hb hm
                                          refine ls false rfl rfl rfl rfl ?_
                                          refine ls false rfl rfl rfl rfl ?_
                                          refine ls false rfl rfl rfl rfl ?_
                                          refine lg true rfl rfl rfl ?_
                                          refine lp rfl (p_pkt rfl rfl) ?_
                                          refine lg false rfl rfl rfl ?_
                                          refine lp rfl (p_pkt rfl rfl) ?_
                                          refine lp rfl (p_pkf rfl rfl) ?_
                                          refine lp rfl (p_as rfl) ?_
                                          refine lj_nil ?_
                                          exact cnk32 _ _ true () (Option.some.inj hm).symm ⟨rfl, rfl, trivial⟩ (fun _ h => h.picks [] rfl)
                                        · have hm := ifB_f hb hm
                                          refine lg false rfl rfl rfl ?_
                                          refine lp rfl (p_fab fl72_9 rfl) ?_
                                          refine lg false rfl rfl rfl ?_
                                          refine lp rfl (p_lbs ty3 rfl (j := 1) rfl rfl) ?_
                                          refine lg false rfl rfl rfl ?_
                                          refine lp rfl (p_neq rfl rfl) ?_
                                          refine lg true rfl rfl rfl ?_
                                          refine lp rfl (p_pkf rfl rfl) ?_
                                          refine lg false rfl rfl rfl ?_
                                          refine lp rfl (p_pkt rfl rfl) ?_
                                          refine lp rfl (p_pkf rfl rfl) ?_
                                          refine lp rfl (p_as rfl) ?_
                                          refine lj_nil ?_
                                          exact cnk32 _ _ (a0.Other != 0) () (Option.some.inj hm).symm ⟨rfl, rfl, trivial⟩ (fun _ h => h.picks [] rfl)
                                      · have hm := ifB_f hb hm
                                        refine ls true rfl rfl rfl rfl ?_
                                        refine ls true rfl rfl rfl rfl ?_
                                        refine ls true rfl rfl rfl rfl ?_
                                        refine ls true rfl rfl rfl rfl ?_
                                        refine lsu rfl rfl rfl rfl ?_
                                        refine lsu rfl rfl rfl rfl ?_
                                        refine lsu rfl rfl rfl rfl ?_
                                        refine ls true rfl rfl rfl rfl ?_
                                        refine lg false rfl rfl rfl ?_
                                        refine lp rfl (p_pkf rfl rfl) ?_
                                        refine lp rfl (p_pkf rfl rfl) ?_
                                        refine lp rfl (p_as rfl) ?_
                                        refine lj_nil ?_
                                        exact cnk32 _ _ false () (Option.some.inj hm).symm ⟨rfl, rfl, trivial⟩ (fun _ h => h.picks [] rfl)
                                  · have hm := ifB_f hb hm
                                    refine ls true rfl rfl rfl rfl ?_
                                    refine ls true rfl rfl rfl rfl ?_
                                    refine lg false rfl rfl rfl ?_
                                    refine lp rfl (p_pkf rfl rfl) ?_
                                    refine lp rfl (p_pkf rfl rfl) ?_
                                    refine lp rfl (p_mv rfl) ?_
                                    refine lg false rfl rfl rfl ?_
                                    refine lp rfl (p_fab fl191_4 rfl) ?_
                                    refine lg false rfl rfl rfl ?_
                                    refine lp rfl (p_lbs ty4 rfl (j := 0) rfl rfl) ?_
                                    refine lg false rfl rfl rfl ?_
                                    refine lp rfl (p_not rfl) ?_
                                    refine lg false rfl rfl rfl ?_
                                    refine lp rfl (p_mv rfl) ?_
                                    refine lcase (i := 119) (!y9.undo) rfl (fun hb => ?_) (fun hb => ?_)
                                    · have hm := ifB_t hb hm
                                      refine lg true rfl rfl rfl ?_
                                      refine lp rfl (p_fab fl72_8 rfl) ?_
                                      refine lg true rfl rfl rfl ?_
                                      refine lp rfl (p_lbs ty9 rfl (j := 1) rfl rfl) ?_
                                      refine lg true rfl rfl rfl ?_
                                      refine lp rfl (p_nes rfl rfl) ?_
                                      refine lg true rfl rfl rfl ?_
                                      refine lp rfl (p_mv rfl) ?_
                                      refine lcase (i := 123) (!(a0.Of.toList == ByteArray.empty.toList)) rfl (fun hb => ?_) (fun hb => ?_)
                                      · have hm := ifB_t hb hm
                                        refine ls false rfl rfl rfl rfl ?_
                                        refine ls false rfl rfl rfl rfl ?_
                                        refine ls false rfl rfl rfl rfl ?_
                                        refine lg true rfl rfl rfl ?_
                                        refine lp rfl (p_pkt rfl rfl) ?_
                                        refine lg false rfl rfl rfl ?_
                                        refine lp rfl (p_pkt rfl rfl) ?_
                                        refine lp rfl (p_pkf rfl rfl) ?_
                                        refine lp rfl (p_as rfl) ?_
                                        refine lj_nil ?_
                                        exact cnk32 _ _ true () (Option.some.inj hm).symm ⟨rfl, rfl, trivial⟩ (fun _ h => h.picks [] rfl)
                                      · have hm := ifB_f hb hm
                                        refine lg false rfl rfl rfl ?_
                                        refine lp rfl (p_fab fl72_9 rfl) ?_
                                        refine lg false rfl rfl rfl ?_
                                        refine lp rfl (p_lbs ty3 rfl (j := 1) rfl rfl) ?_
                                        refine lg false rfl rfl rfl ?_
                                        refine lp rfl (p_neq rfl rfl) ?_
                                        refine lg true rfl rfl rfl ?_
                                        refine lp rfl (p_pkf rfl rfl) ?_
                                        refine lg false rfl rfl rfl ?_
                                        refine lp rfl (p_pkt rfl rfl) ?_
                                        refine lp rfl (p_pkf rfl rfl) ?_
                                        refine lp rfl (p_as rfl) ?_
                                        refine lj_nil ?_
                                        exact cnk32 _ _ (a0.Other != 0) () (Option.some.inj hm).symm ⟨rfl, rfl, trivial⟩ (fun _ h => h.picks [] rfl)
                                    · have hm := ifB_f hb hm
                                      refine ls true rfl rfl rfl rfl ?_
                                      refine ls true rfl rfl rfl rfl ?_
                                      refine ls true rfl rfl rfl rfl ?_
                                      refine ls true rfl rfl rfl rfl ?_
                                      refine lsu rfl rfl rfl rfl ?_
                                      refine lsu rfl rfl rfl rfl ?_
                                      refine lsu rfl rfl rfl rfl ?_
                                      refine ls true rfl rfl rfl rfl ?_
                                      refine lg false rfl rfl rfl ?_
                                      refine lp rfl (p_pkf rfl rfl) ?_
                                      refine lp rfl (p_pkf rfl rfl) ?_
                                      refine lp rfl (p_as rfl) ?_
                                      refine lj_nil ?_
                                      exact cnk32 _ _ false () (Option.some.inj hm).symm ⟨rfl, rfl, trivial⟩ (fun _ h => h.picks [] rfl)
                              · have hm := ifB_f hb hm
                                refine ls true rfl rfl rfl rfl ?_
                                refine ls true rfl rfl rfl rfl ?_
                                refine ls true rfl rfl rfl rfl ?_
                                refine lg false rfl rfl rfl ?_
                                refine lp rfl (p_pkf rfl rfl) ?_
                                refine lp rfl (p_pkf rfl rfl) ?_
                                refine lp rfl (p_mv rfl) ?_
                                refine lg false rfl rfl rfl ?_
                                refine lp rfl (p_fab fl191_3 rfl) ?_
                                refine lg false rfl rfl rfl ?_
                                refine lp rfl (p_lbs ty4 rfl (j := 0) rfl rfl) ?_
                                refine lg false rfl rfl rfl ?_
                                refine lp rfl (p_not rfl) ?_
                                refine lg false rfl rfl rfl ?_
                                refine lp rfl (p_mv rfl) ?_
                                refine lcase (i := 110) (!y9.yes) rfl (fun hb => ?_) (fun hb => ?_)
                                · have hm := ifB_t hb hm
                                  refine lg true rfl rfl rfl ?_
                                  refine lp rfl (p_fab fl72_7 rfl) ?_
                                  refine lg true rfl rfl rfl ?_
                                  refine lp rfl (p_lbs ty4 rfl (j := 1) rfl rfl) ?_
                                  refine lg false rfl rfl rfl ?_
                                  refine lp rfl (p_pkt rfl rfl) ?_
                                  refine lp rfl (p_pkf rfl rfl) ?_
                                  refine lp rfl (p_mv rfl) ?_
                                  refine lcase (i := 115) a0.Yes rfl (fun hb => ?_) (fun hb => ?_)
                                  · have hm := ifB_t hb hm
                                    refine ls false rfl rfl rfl rfl ?_
                                    refine ls false rfl rfl rfl rfl ?_
                                    refine ls false rfl rfl rfl rfl ?_
                                    refine ls false rfl rfl rfl rfl ?_
                                    refine lsu rfl rfl rfl rfl ?_
                                    refine lsu rfl rfl rfl rfl ?_
                                    refine lsu rfl rfl rfl rfl ?_
                                    refine lsu rfl rfl rfl rfl ?_
                                    refine lsu rfl rfl rfl rfl ?_
                                    refine lsu rfl rfl rfl rfl ?_
                                    refine lsu rfl rfl rfl rfl ?_
                                    refine lsu rfl rfl rfl rfl ?_
                                    refine ls false rfl rfl rfl rfl ?_
                                    refine lp rfl (p_pkt rfl rfl) ?_
                                    refine lp rfl (p_as rfl) ?_
                                    refine lj_nil ?_
                                    exact cnk32 _ _ true () (Option.some.inj hm).symm ⟨rfl, rfl, trivial⟩ (fun _ h => h.picks [] rfl)
                                  · have hm := ifB_f hb hm
                                    refine lg false rfl rfl rfl ?_
                                    refine lp rfl (p_fab fl191_4 rfl) ?_
                                    refine lg false rfl rfl rfl ?_
                                    refine lp rfl (p_lbs ty4 rfl (j := 0) rfl rfl) ?_
                                    refine lg false rfl rfl rfl ?_
                                    refine lp rfl (p_not rfl) ?_
                                    refine lg false rfl rfl rfl ?_
                                    refine lp rfl (p_mv rfl) ?_
                                    refine lcase (i := 119) (!y9.undo) rfl (fun hb => ?_) (fun hb => ?_)
                                    · have hm := ifB_t hb hm
                                      refine lg true rfl rfl rfl ?_
                                      refine lp rfl (p_fab fl72_8 rfl) ?_
                                      refine lg true rfl rfl rfl ?_
                                      refine lp rfl (p_lbs ty9 rfl (j := 1) rfl rfl) ?_
                                      refine lg true rfl rfl rfl ?_
                                      refine lp rfl (p_nes rfl rfl) ?_
                                      refine lg true rfl rfl rfl ?_
                                      refine lp rfl (p_mv rfl) ?_
                                      refine lcase (i := 123) (!(a0.Of.toList == ByteArray.empty.toList)) rfl (fun hb => ?_) (fun hb => ?_)
                                      · have hm := ifB_t hb hm
                                        refine ls false rfl rfl rfl rfl ?_
                                        refine ls false rfl rfl rfl rfl ?_
                                        refine ls false rfl rfl rfl rfl ?_
                                        refine lg true rfl rfl rfl ?_
                                        refine lp rfl (p_pkt rfl rfl) ?_
                                        refine lg false rfl rfl rfl ?_
                                        refine lp rfl (p_pkt rfl rfl) ?_
                                        refine lp rfl (p_pkf rfl rfl) ?_
                                        refine lp rfl (p_as rfl) ?_
                                        refine lj_nil ?_
                                        exact cnk32 _ _ true () (Option.some.inj hm).symm ⟨rfl, rfl, trivial⟩ (fun _ h => h.picks [] rfl)
                                      · have hm := ifB_f hb hm
                                        refine lg false rfl rfl rfl ?_
                                        refine lp rfl (p_fab fl72_9 rfl) ?_
                                        refine lg false rfl rfl rfl ?_
                                        refine lp rfl (p_lbs ty3 rfl (j := 1) rfl rfl) ?_
                                        refine lg false rfl rfl rfl ?_
                                        refine lp rfl (p_neq rfl rfl) ?_
                                        refine lg true rfl rfl rfl ?_
                                        refine lp rfl (p_pkf rfl rfl) ?_
                                        refine lg false rfl rfl rfl ?_
                                        refine lp rfl (p_pkt rfl rfl) ?_
                                        refine lp rfl (p_pkf rfl rfl) ?_
                                        refine lp rfl (p_as rfl) ?_
                                        refine lj_nil ?_
                                        exact cnk32 _ _ (a0.Other != 0) () (Option.some.inj hm).symm ⟨rfl, rfl, trivial⟩ (fun _ h => h.picks [] rfl)
                                    · have hm := ifB_f hb hm
                                      refine ls true rfl rfl rfl rfl ?_
                                      refine ls true rfl rfl rfl rfl ?_
                                      refine ls true rfl rfl rfl rfl ?_
                                      refine ls true rfl rfl rfl rfl ?_
                                      refine lsu rfl rfl rfl rfl ?_
                                      refine lsu rfl rfl rfl rfl ?_
                                      refine lsu rfl rfl rfl rfl ?_
                                      refine ls true rfl rfl rfl rfl ?_
                                      refine lg false rfl rfl rfl ?_
                                      refine lp rfl (p_pkf rfl rfl) ?_
                                      refine lp rfl (p_pkf rfl rfl) ?_
                                      refine lp rfl (p_as rfl) ?_
                                      refine lj_nil ?_
                                      exact cnk32 _ _ false () (Option.some.inj hm).symm ⟨rfl, rfl, trivial⟩ (fun _ h => h.picks [] rfl)
                                · have hm := ifB_f hb hm
                                  refine ls true rfl rfl rfl rfl ?_
                                  refine ls true rfl rfl rfl rfl ?_
                                  refine lg false rfl rfl rfl ?_
                                  refine lp rfl (p_pkf rfl rfl) ?_
                                  refine lp rfl (p_pkf rfl rfl) ?_
                                  refine lp rfl (p_mv rfl) ?_
                                  refine lg false rfl rfl rfl ?_
                                  refine lp rfl (p_fab fl191_4 rfl) ?_
                                  refine lg false rfl rfl rfl ?_
                                  refine lp rfl (p_lbs ty4 rfl (j := 0) rfl rfl) ?_
                                  refine lg false rfl rfl rfl ?_
                                  refine lp rfl (p_not rfl) ?_
                                  refine lg false rfl rfl rfl ?_
                                  refine lp rfl (p_mv rfl) ?_
                                  refine lcase (i := 119) (!y9.undo) rfl (fun hb => ?_) (fun hb => ?_)
                                  · have hm := ifB_t hb hm
                                    refine lg true rfl rfl rfl ?_
                                    refine lp rfl (p_fab fl72_8 rfl) ?_
                                    refine lg true rfl rfl rfl ?_
                                    refine lp rfl (p_lbs ty9 rfl (j := 1) rfl rfl) ?_
                                    refine lg true rfl rfl rfl ?_
                                    refine lp rfl (p_nes rfl rfl) ?_
                                    refine lg true rfl rfl rfl ?_
                                    refine lp rfl (p_mv rfl) ?_
                                    refine lcase (i := 123) (!(a0.Of.toList == ByteArray.empty.toList)) rfl (fun hb => ?_) (fun hb => ?_)
                                    · have hm := ifB_t hb hm
                                      refine ls false rfl rfl rfl rfl ?_
                                      refine ls false rfl rfl rfl rfl ?_
                                      refine ls false rfl rfl rfl rfl ?_
                                      refine lg true rfl rfl rfl ?_
                                      refine lp rfl (p_pkt rfl rfl) ?_
                                      refine lg false rfl rfl rfl ?_
                                      refine lp rfl (p_pkt rfl rfl) ?_
                                      refine lp rfl (p_pkf rfl rfl) ?_
                                      refine lp rfl (p_as rfl) ?_
                                      refine lj_nil ?_
                                      exact cnk32 _ _ true () (Option.some.inj hm).symm ⟨rfl, rfl, trivial⟩ (fun _ h => h.picks [] rfl)
                                    · have hm := ifB_f hb hm
                                      refine lg false rfl rfl rfl ?_
                                      refine lp rfl (p_fab fl72_9 rfl) ?_
                                      refine lg false rfl rfl rfl ?_
                                      refine lp rfl (p_lbs ty3 rfl (j := 1) rfl rfl) ?_
                                      refine lg false rfl rfl rfl ?_
                                      refine lp rfl (p_neq rfl rfl) ?_
                                      refine lg true rfl rfl rfl ?_
                                      refine lp rfl (p_pkf rfl rfl) ?_
                                      refine lg false rfl rfl rfl ?_
                                      refine lp rfl (p_pkt rfl rfl) ?_
                                      refine lp rfl (p_pkf rfl rfl) ?_
                                      refine lp rfl (p_as rfl) ?_
                                      refine lj_nil ?_
                                      exact cnk32 _ _ (a0.Other != 0) () (Option.some.inj hm).symm ⟨rfl, rfl, trivial⟩ (fun _ h => h.picks [] rfl)
                                  · have hm := ifB_f hb hm
                                    refine ls true rfl rfl rfl rfl ?_
                                    refine ls true rfl rfl rfl rfl ?_
                                    refine ls true rfl rfl rfl rfl ?_
                                    refine ls true rfl rfl rfl rfl ?_
                                    refine lsu rfl rfl rfl rfl ?_
                                    refine lsu rfl rfl rfl rfl ?_
                                    refine lsu rfl rfl rfl rfl ?_
                                    refine ls true rfl rfl rfl rfl ?_
                                    refine lg false rfl rfl rfl ?_
                                    refine lp rfl (p_pkf rfl rfl) ?_
                                    refine lp rfl (p_pkf rfl rfl) ?_
                                    refine lp rfl (p_as rfl) ?_
                                    refine lj_nil ?_
                                    exact cnk32 _ _ false () (Option.some.inj hm).symm ⟨rfl, rfl, trivial⟩ (fun _ h => h.picks [] rfl)
                          · have hm := ifB_f hb hm
                            refine ls true rfl rfl rfl rfl ?_
                            refine ls true rfl rfl rfl rfl ?_
                            refine ls true rfl rfl rfl rfl ?_
                            refine lg false rfl rfl rfl ?_
                            refine lp rfl (p_pkf rfl rfl) ?_
                            refine lp rfl (p_pkf rfl rfl) ?_
                            refine lp rfl (p_mv rfl) ?_
                            refine lg false rfl rfl rfl ?_
                            refine lp rfl (p_fab fl191_2 rfl) ?_
                            refine lg false rfl rfl rfl ?_
                            refine lp rfl (p_lbs ty4 rfl (j := 0) rfl rfl) ?_
                            refine lg false rfl rfl rfl ?_
                            refine lp rfl (p_not rfl) ?_
                            refine lg false rfl rfl rfl ?_
                            refine lp rfl (p_mv rfl) ?_
                            refine lcase (i := 100) (!y9.cents) rfl (fun hb => ?_) (fun hb => ?_)
                            · have hm := ifB_t hb hm
                              refine lg true rfl rfl rfl ?_
                              refine lp rfl (p_fab fl72_6 rfl) ?_
                              refine lg true rfl rfl rfl ?_
                              refine lp rfl (p_lbs ty3 rfl (j := 1) rfl rfl) ?_
                              refine lg true rfl rfl rfl ?_
                              refine lp rfl (p_neq rfl rfl) ?_
                              refine lg false rfl rfl rfl ?_
                              refine lp rfl (p_pkt rfl rfl) ?_
                              refine lp rfl (p_pkf rfl rfl) ?_
                              refine lp rfl (p_mv rfl) ?_
                              refine lcase (i := 106) (a0.Cents != 0) rfl (fun hb => ?_) (fun hb => ?_)
                              · have hm := ifB_t hb hm
                                refine ls false rfl rfl rfl rfl ?_
                                refine ls false rfl rfl rfl rfl ?_
                                refine ls false rfl rfl rfl rfl ?_
                                refine ls false rfl rfl rfl rfl ?_
                                refine lsu rfl rfl rfl rfl ?_
                                refine lsu rfl rfl rfl rfl ?_
                                refine ls false rfl rfl rfl rfl ?_
                                refine lp rfl (p_pkt rfl rfl) ?_
                                refine lp rfl (p_mv rfl) ?_
                                refine ls false rfl rfl rfl rfl ?_
                                refine ls false rfl rfl rfl rfl ?_
                                refine ls false rfl rfl rfl rfl ?_
                                refine ls false rfl rfl rfl rfl ?_
                                refine lsu rfl rfl rfl rfl ?_
                                refine lsu rfl rfl rfl rfl ?_
                                refine lsu rfl rfl rfl rfl ?_
                                refine lsu rfl rfl rfl rfl ?_
                                refine lsu rfl rfl rfl rfl ?_
                                refine lsu rfl rfl rfl rfl ?_
                                refine lsu rfl rfl rfl rfl ?_
                                refine lsu rfl rfl rfl rfl ?_
                                refine ls false rfl rfl rfl rfl ?_
                                refine lp rfl (p_pkt rfl rfl) ?_
                                refine lp rfl (p_as rfl) ?_
                                refine lj_nil ?_
                                exact cnk32 _ _ true () (Option.some.inj hm).symm ⟨rfl, rfl, trivial⟩ (fun _ h => h.picks [] rfl)
                              · have hm := ifB_f hb hm
                                refine lg false rfl rfl rfl ?_
                                refine lp rfl (p_fab fl191_3 rfl) ?_
                                refine lg false rfl rfl rfl ?_
                                refine lp rfl (p_lbs ty4 rfl (j := 0) rfl rfl) ?_
                                refine lg false rfl rfl rfl ?_
                                refine lp rfl (p_not rfl) ?_
                                refine lg false rfl rfl rfl ?_
                                refine lp rfl (p_mv rfl) ?_
                                refine lcase (i := 110) (!y9.yes) rfl (fun hb => ?_) (fun hb => ?_)
                                · have hm := ifB_t hb hm
                                  refine lg true rfl rfl rfl ?_
                                  refine lp rfl (p_fab fl72_7 rfl) ?_
                                  refine lg true rfl rfl rfl ?_
                                  refine lp rfl (p_lbs ty4 rfl (j := 1) rfl rfl) ?_
                                  refine lg false rfl rfl rfl ?_
                                  refine lp rfl (p_pkt rfl rfl) ?_
                                  refine lp rfl (p_pkf rfl rfl) ?_
                                  refine lp rfl (p_mv rfl) ?_
                                  refine lcase (i := 115) a0.Yes rfl (fun hb => ?_) (fun hb => ?_)
                                  · have hm := ifB_t hb hm
                                    refine ls false rfl rfl rfl rfl ?_
                                    refine ls false rfl rfl rfl rfl ?_
                                    refine ls false rfl rfl rfl rfl ?_
                                    refine ls false rfl rfl rfl rfl ?_
                                    refine lsu rfl rfl rfl rfl ?_
                                    refine lsu rfl rfl rfl rfl ?_
                                    refine lsu rfl rfl rfl rfl ?_
                                    refine lsu rfl rfl rfl rfl ?_
                                    refine lsu rfl rfl rfl rfl ?_
                                    refine lsu rfl rfl rfl rfl ?_
                                    refine lsu rfl rfl rfl rfl ?_
                                    refine lsu rfl rfl rfl rfl ?_
                                    refine ls false rfl rfl rfl rfl ?_
                                    refine lp rfl (p_pkt rfl rfl) ?_
                                    refine lp rfl (p_as rfl) ?_
                                    refine lj_nil ?_
                                    exact cnk32 _ _ true () (Option.some.inj hm).symm ⟨rfl, rfl, trivial⟩ (fun _ h => h.picks [] rfl)
                                  · have hm := ifB_f hb hm
                                    refine lg false rfl rfl rfl ?_
                                    refine lp rfl (p_fab fl191_4 rfl) ?_
                                    refine lg false rfl rfl rfl ?_
                                    refine lp rfl (p_lbs ty4 rfl (j := 0) rfl rfl) ?_
                                    refine lg false rfl rfl rfl ?_
                                    refine lp rfl (p_not rfl) ?_
                                    refine lg false rfl rfl rfl ?_
                                    refine lp rfl (p_mv rfl) ?_
                                    refine lcase (i := 119) (!y9.undo) rfl (fun hb => ?_) (fun hb => ?_)
                                    · have hm := ifB_t hb hm
                                      refine lg true rfl rfl rfl ?_
                                      refine lp rfl (p_fab fl72_8 rfl) ?_
                                      refine lg true rfl rfl rfl ?_
                                      refine lp rfl (p_lbs ty9 rfl (j := 1) rfl rfl) ?_
                                      refine lg true rfl rfl rfl ?_
                                      refine lp rfl (p_nes rfl rfl) ?_
                                      refine lg true rfl rfl rfl ?_
                                      refine lp rfl (p_mv rfl) ?_
                                      refine lcase (i := 123) (!(a0.Of.toList == ByteArray.empty.toList)) rfl (fun hb => ?_) (fun hb => ?_)
                                      · have hm := ifB_t hb hm
                                        refine ls false rfl rfl rfl rfl ?_
                                        refine ls false rfl rfl rfl rfl ?_
                                        refine ls false rfl rfl rfl rfl ?_
                                        refine lg true rfl rfl rfl ?_
                                        refine lp rfl (p_pkt rfl rfl) ?_
                                        refine lg false rfl rfl rfl ?_
                                        refine lp rfl (p_pkt rfl rfl) ?_
                                        refine lp rfl (p_pkf rfl rfl) ?_
                                        refine lp rfl (p_as rfl) ?_
                                        refine lj_nil ?_
                                        exact cnk32 _ _ true () (Option.some.inj hm).symm ⟨rfl, rfl, trivial⟩ (fun _ h => h.picks [] rfl)
                                      · have hm := ifB_f hb hm
                                        refine lg false rfl rfl rfl ?_
                                        refine lp rfl (p_fab fl72_9 rfl) ?_
                                        refine lg false rfl rfl rfl ?_
                                        refine lp rfl (p_lbs ty3 rfl (j := 1) rfl rfl) ?_
                                        refine lg false rfl rfl rfl ?_
                                        refine lp rfl (p_neq rfl rfl) ?_
                                        refine lg true rfl rfl rfl ?_
                                        refine lp rfl (p_pkf rfl rfl) ?_
                                        refine lg false rfl rfl rfl ?_
                                        refine lp rfl (p_pkt rfl rfl) ?_
                                        refine lp rfl (p_pkf rfl rfl) ?_
                                        refine lp rfl (p_as rfl) ?_
                                        refine lj_nil ?_
                                        exact cnk32 _ _ (a0.Other != 0) () (Option.some.inj hm).symm ⟨rfl, rfl, trivial⟩ (fun _ h => h.picks [] rfl)
                                    · have hm := ifB_f hb hm
                                      refine ls true rfl rfl rfl rfl ?_
                                      refine ls true rfl rfl rfl rfl ?_
                                      refine ls true rfl rfl rfl rfl ?_
                                      refine ls true rfl rfl rfl rfl ?_
                                      refine lsu rfl rfl rfl rfl ?_
                                      refine lsu rfl rfl rfl rfl ?_
                                      refine lsu rfl rfl rfl rfl ?_
                                      refine ls true rfl rfl rfl rfl ?_
                                      refine lg false rfl rfl rfl ?_
                                      refine lp rfl (p_pkf rfl rfl) ?_
                                      refine lp rfl (p_pkf rfl rfl) ?_
                                      refine lp rfl (p_as rfl) ?_
                                      refine lj_nil ?_
                                      exact cnk32 _ _ false () (Option.some.inj hm).symm ⟨rfl, rfl, trivial⟩ (fun _ h => h.picks [] rfl)
                                · have hm := ifB_f hb hm
                                  refine ls true rfl rfl rfl rfl ?_
                                  refine ls true rfl rfl rfl rfl ?_
                                  refine lg false rfl rfl rfl ?_
                                  refine lp rfl (p_pkf rfl rfl) ?_
                                  refine lp rfl (p_pkf rfl rfl) ?_
                                  refine lp rfl (p_mv rfl) ?_
                                  refine lg false rfl rfl rfl ?_
                                  refine lp rfl (p_fab fl191_4 rfl) ?_
                                  refine lg false rfl rfl rfl ?_
                                  refine lp rfl (p_lbs ty4 rfl (j := 0) rfl rfl) ?_
                                  refine lg false rfl rfl rfl ?_
                                  refine lp rfl (p_not rfl) ?_
                                  refine lg false rfl rfl rfl ?_
                                  refine lp rfl (p_mv rfl) ?_
                                  refine lcase (i := 119) (!y9.undo) rfl (fun hb => ?_) (fun hb => ?_)
                                  · have hm := ifB_t hb hm
                                    refine lg true rfl rfl rfl ?_
                                    refine lp rfl (p_fab fl72_8 rfl) ?_
                                    refine lg true rfl rfl rfl ?_
                                    refine lp rfl (p_lbs ty9 rfl (j := 1) rfl rfl) ?_
                                    refine lg true rfl rfl rfl ?_
                                    refine lp rfl (p_nes rfl rfl) ?_
                                    refine lg true rfl rfl rfl ?_
                                    refine lp rfl (p_mv rfl) ?_
                                    refine lcase (i := 123) (!(a0.Of.toList == ByteArray.empty.toList)) rfl (fun hb => ?_) (fun hb => ?_)
                                    · have hm := ifB_t hb hm
                                      refine ls false rfl rfl rfl rfl ?_
                                      refine ls false rfl rfl rfl rfl ?_
                                      refine ls false rfl rfl rfl rfl ?_
                                      refine lg true rfl rfl rfl ?_
                                      refine lp rfl (p_pkt rfl rfl) ?_
                                      refine lg false rfl rfl rfl ?_
                                      refine lp rfl (p_pkt rfl rfl) ?_
                                      refine lp rfl (p_pkf rfl rfl) ?_
                                      refine lp rfl (p_as rfl) ?_
                                      refine lj_nil ?_
                                      exact cnk32 _ _ true () (Option.some.inj hm).symm ⟨rfl, rfl, trivial⟩ (fun _ h => h.picks [] rfl)
                                    · have hm := ifB_f hb hm
                                      refine lg false rfl rfl rfl ?_
                                      refine lp rfl (p_fab fl72_9 rfl) ?_
                                      refine lg false rfl rfl rfl ?_
                                      refine lp rfl (p_lbs ty3 rfl (j := 1) rfl rfl) ?_
                                      refine lg false rfl rfl rfl ?_
                                      refine lp rfl (p_neq rfl rfl) ?_
                                      refine lg true rfl rfl rfl ?_
                                      refine lp rfl (p_pkf rfl rfl) ?_
                                      refine lg false rfl rfl rfl ?_
                                      refine lp rfl (p_pkt rfl rfl) ?_
                                      refine lp rfl (p_pkf rfl rfl) ?_
                                      refine lp rfl (p_as rfl) ?_
                                      refine lj_nil ?_
                                      exact cnk32 _ _ (a0.Other != 0) () (Option.some.inj hm).symm ⟨rfl, rfl, trivial⟩ (fun _ h => h.picks [] rfl)
                                  · have hm := ifB_f hb hm
                                    refine ls true rfl rfl rfl rfl ?_
                                    refine ls true rfl rfl rfl rfl ?_
                                    refine ls true rfl rfl rfl rfl ?_
                                    refine ls true rfl rfl rfl rfl ?_
                                    refine lsu rfl rfl rfl rfl ?_
                                    refine lsu rfl rfl rfl rfl ?_
                                    refine lsu rfl rfl rfl rfl ?_
                                    refine ls true rfl rfl rfl rfl ?_
                                    refine lg false rfl rfl rfl ?_
                                    refine lp rfl (p_pkf rfl rfl) ?_
                                    refine lp rfl (p_pkf rfl rfl) ?_
                                    refine lp rfl (p_as rfl) ?_
                                    refine lj_nil ?_
                                    exact cnk32 _ _ false () (Option.some.inj hm).symm ⟨rfl, rfl, trivial⟩ (fun _ h => h.picks [] rfl)
                            · have hm := ifB_f hb hm
                              refine ls true rfl rfl rfl rfl ?_
                              refine ls true rfl rfl rfl rfl ?_
                              refine ls true rfl rfl rfl rfl ?_
                              refine lg false rfl rfl rfl ?_
                              refine lp rfl (p_pkf rfl rfl) ?_
                              refine lp rfl (p_pkf rfl rfl) ?_
                              refine lp rfl (p_mv rfl) ?_
                              refine lg false rfl rfl rfl ?_
                              refine lp rfl (p_fab fl191_3 rfl) ?_
                              refine lg false rfl rfl rfl ?_
                              refine lp rfl (p_lbs ty4 rfl (j := 0) rfl rfl) ?_
                              refine lg false rfl rfl rfl ?_
                              refine lp rfl (p_not rfl) ?_
                              refine lg false rfl rfl rfl ?_
                              refine lp rfl (p_mv rfl) ?_
                              refine lcase (i := 110) (!y9.yes) rfl (fun hb => ?_) (fun hb => ?_)
                              · have hm := ifB_t hb hm
                                refine lg true rfl rfl rfl ?_
                                refine lp rfl (p_fab fl72_7 rfl) ?_
                                refine lg true rfl rfl rfl ?_
                                refine lp rfl (p_lbs ty4 rfl (j := 1) rfl rfl) ?_
                                refine lg false rfl rfl rfl ?_
                                refine lp rfl (p_pkt rfl rfl) ?_
                                refine lp rfl (p_pkf rfl rfl) ?_
                                refine lp rfl (p_mv rfl) ?_
                                refine lcase (i := 115) a0.Yes rfl (fun hb => ?_) (fun hb => ?_)
                                · have hm := ifB_t hb hm
                                  refine ls false rfl rfl rfl rfl ?_
                                  refine ls false rfl rfl rfl rfl ?_
                                  refine ls false rfl rfl rfl rfl ?_
                                  refine ls false rfl rfl rfl rfl ?_
                                  refine lsu rfl rfl rfl rfl ?_
                                  refine lsu rfl rfl rfl rfl ?_
                                  refine lsu rfl rfl rfl rfl ?_
                                  refine lsu rfl rfl rfl rfl ?_
                                  refine lsu rfl rfl rfl rfl ?_
                                  refine lsu rfl rfl rfl rfl ?_
                                  refine lsu rfl rfl rfl rfl ?_
                                  refine lsu rfl rfl rfl rfl ?_
                                  refine ls false rfl rfl rfl rfl ?_
                                  refine lp rfl (p_pkt rfl rfl) ?_
                                  refine lp rfl (p_as rfl) ?_
                                  refine lj_nil ?_
                                  exact cnk32 _ _ true () (Option.some.inj hm).symm ⟨rfl, rfl, trivial⟩ (fun _ h => h.picks [] rfl)
                                · have hm := ifB_f hb hm
                                  refine lg false rfl rfl rfl ?_
                                  refine lp rfl (p_fab fl191_4 rfl) ?_
                                  refine lg false rfl rfl rfl ?_
                                  refine lp rfl (p_lbs ty4 rfl (j := 0) rfl rfl) ?_
                                  refine lg false rfl rfl rfl ?_
                                  refine lp rfl (p_not rfl) ?_
                                  refine lg false rfl rfl rfl ?_
                                  refine lp rfl (p_mv rfl) ?_
                                  refine lcase (i := 119) (!y9.undo) rfl (fun hb => ?_) (fun hb => ?_)
                                  · have hm := ifB_t hb hm
                                    refine lg true rfl rfl rfl ?_
                                    refine lp rfl (p_fab fl72_8 rfl) ?_
                                    refine lg true rfl rfl rfl ?_
                                    refine lp rfl (p_lbs ty9 rfl (j := 1) rfl rfl) ?_
                                    refine lg true rfl rfl rfl ?_
                                    refine lp rfl (p_nes rfl rfl) ?_
                                    refine lg true rfl rfl rfl ?_
                                    refine lp rfl (p_mv rfl) ?_
                                    refine lcase (i := 123) (!(a0.Of.toList == ByteArray.empty.toList)) rfl (fun hb => ?_) (fun hb => ?_)
                                    · have hm := ifB_t hb hm
                                      refine ls false rfl rfl rfl rfl ?_
                                      refine ls false rfl rfl rfl rfl ?_
                                      refine ls false rfl rfl rfl rfl ?_
                                      refine lg true rfl rfl rfl ?_
                                      refine lp rfl (p_pkt rfl rfl) ?_
                                      refine lg false rfl rfl rfl ?_
                                      refine lp rfl (p_pkt rfl rfl) ?_
                                      refine lp rfl (p_pkf rfl rfl) ?_
                                      refine lp rfl (p_as rfl) ?_
                                      refine lj_nil ?_
                                      exact cnk32 _ _ true () (Option.some.inj hm).symm ⟨rfl, rfl, trivial⟩ (fun _ h => h.picks [] rfl)
                                    · have hm := ifB_f hb hm
                                      refine lg false rfl rfl rfl ?_
                                      refine lp rfl (p_fab fl72_9 rfl) ?_
                                      refine lg false rfl rfl rfl ?_
                                      refine lp rfl (p_lbs ty3 rfl (j := 1) rfl rfl) ?_
                                      refine lg false rfl rfl rfl ?_
                                      refine lp rfl (p_neq rfl rfl) ?_
                                      refine lg true rfl rfl rfl ?_
                                      refine lp rfl (p_pkf rfl rfl) ?_
                                      refine lg false rfl rfl rfl ?_
                                      refine lp rfl (p_pkt rfl rfl) ?_
                                      refine lp rfl (p_pkf rfl rfl) ?_
                                      refine lp rfl (p_as rfl) ?_
                                      refine lj_nil ?_
                                      exact cnk32 _ _ (a0.Other != 0) () (Option.some.inj hm).symm ⟨rfl, rfl, trivial⟩ (fun _ h => h.picks [] rfl)
                                  · have hm := ifB_f hb hm
                                    refine ls true rfl rfl rfl rfl ?_
                                    refine ls true rfl rfl rfl rfl ?_
                                    refine ls true rfl rfl rfl rfl ?_
                                    refine ls true rfl rfl rfl rfl ?_
                                    refine lsu rfl rfl rfl rfl ?_
                                    refine lsu rfl rfl rfl rfl ?_
                                    refine lsu rfl rfl rfl rfl ?_
                                    refine ls true rfl rfl rfl rfl ?_
                                    refine lg false rfl rfl rfl ?_
                                    refine lp rfl (p_pkf rfl rfl) ?_
                                    refine lp rfl (p_pkf rfl rfl) ?_
                                    refine lp rfl (p_as rfl) ?_
                                    refine lj_nil ?_
                                    exact cnk32 _ _ false () (Option.some.inj hm).symm ⟨rfl, rfl, trivial⟩ (fun _ h => h.picks [] rfl)
                              · have hm := ifB_f hb hm
                                refine ls true rfl rfl rfl rfl ?_
                                refine ls true rfl rfl rfl rfl ?_
                                refine lg false rfl rfl rfl ?_
                                refine lp rfl (p_pkf rfl rfl) ?_
                                refine lp rfl (p_pkf rfl rfl) ?_
                                refine lp rfl (p_mv rfl) ?_
                                refine lg false rfl rfl rfl ?_
                                refine lp rfl (p_fab fl191_4 rfl) ?_
                                refine lg false rfl rfl rfl ?_
                                refine lp rfl (p_lbs ty4 rfl (j := 0) rfl rfl) ?_
                                refine lg false rfl rfl rfl ?_
                                refine lp rfl (p_not rfl) ?_
                                refine lg false rfl rfl rfl ?_
                                refine lp rfl (p_mv rfl) ?_
                                refine lcase (i := 119) (!y9.undo) rfl (fun hb => ?_) (fun hb => ?_)
                                · have hm := ifB_t hb hm
                                  refine lg true rfl rfl rfl ?_
                                  refine lp rfl (p_fab fl72_8 rfl) ?_
                                  refine lg true rfl rfl rfl ?_
                                  refine lp rfl (p_lbs ty9 rfl (j := 1) rfl rfl) ?_
                                  refine lg true rfl rfl rfl ?_
                                  refine lp rfl (p_nes rfl rfl) ?_
                                  refine lg true rfl rfl rfl ?_
                                  refine lp rfl (p_mv rfl) ?_
                                  refine lcase (i := 123) (!(a0.Of.toList == ByteArray.empty.toList)) rfl (fun hb => ?_) (fun hb => ?_)
                                  · have hm := ifB_t hb hm
                                    refine ls false rfl rfl rfl rfl ?_
                                    refine ls false rfl rfl rfl rfl ?_
                                    refine ls false rfl rfl rfl rfl ?_
                                    refine lg true rfl rfl rfl ?_
                                    refine lp rfl (p_pkt rfl rfl) ?_
                                    refine lg false rfl rfl rfl ?_
                                    refine lp rfl (p_pkt rfl rfl) ?_
                                    refine lp rfl (p_pkf rfl rfl) ?_
                                    refine lp rfl (p_as rfl) ?_
                                    refine lj_nil ?_
                                    exact cnk32 _ _ true () (Option.some.inj hm).symm ⟨rfl, rfl, trivial⟩ (fun _ h => h.picks [] rfl)
                                  · have hm := ifB_f hb hm
                                    refine lg false rfl rfl rfl ?_
                                    refine lp rfl (p_fab fl72_9 rfl) ?_
                                    refine lg false rfl rfl rfl ?_
                                    refine lp rfl (p_lbs ty3 rfl (j := 1) rfl rfl) ?_
                                    refine lg false rfl rfl rfl ?_
                                    refine lp rfl (p_neq rfl rfl) ?_
                                    refine lg true rfl rfl rfl ?_
                                    refine lp rfl (p_pkf rfl rfl) ?_
                                    refine lg false rfl rfl rfl ?_
                                    refine lp rfl (p_pkt rfl rfl) ?_
                                    refine lp rfl (p_pkf rfl rfl) ?_
                                    refine lp rfl (p_as rfl) ?_
                                    refine lj_nil ?_
                                    exact cnk32 _ _ (a0.Other != 0) () (Option.some.inj hm).symm ⟨rfl, rfl, trivial⟩ (fun _ h => h.picks [] rfl)
                                · have hm := ifB_f hb hm
                                  refine ls true rfl rfl rfl rfl ?_
                                  refine ls true rfl rfl rfl rfl ?_
                                  refine ls true rfl rfl rfl rfl ?_
                                  refine ls true rfl rfl rfl rfl ?_
                                  refine lsu rfl rfl rfl rfl ?_
                                  refine lsu rfl rfl rfl rfl ?_
                                  refine lsu rfl rfl rfl rfl ?_
                                  refine ls true rfl rfl rfl rfl ?_
                                  refine lg false rfl rfl rfl ?_
                                  refine lp rfl (p_pkf rfl rfl) ?_
                                  refine lp rfl (p_pkf rfl rfl) ?_
                                  refine lp rfl (p_as rfl) ?_
                                  refine lj_nil ?_
                                  exact cnk32 _ _ false () (Option.some.inj hm).symm ⟨rfl, rfl, trivial⟩ (fun _ h => h.picks [] rfl)
                      · have hm := ifB_f hb hm
                        refine ls true rfl rfl rfl rfl ?_
                        refine ls true rfl rfl rfl rfl ?_
                        refine ls true rfl rfl rfl rfl ?_
                        refine lp rfl (p_pkf rfl rfl) ?_
                        refine lp rfl (p_mv rfl) ?_
                        refine lg false rfl rfl rfl ?_
                        refine lp rfl (p_fab fl191_1 rfl) ?_
                        refine lg false rfl rfl rfl ?_
                        refine lp rfl (p_lbs ty4 rfl (j := 0) rfl rfl) ?_
                        refine lg false rfl rfl rfl ?_
                        refine lp rfl (p_not rfl) ?_
                        refine lg false rfl rfl rfl ?_
                        refine lp rfl (p_mv rfl) ?_
                        refine lcase (i := 90) (!y9.motion) rfl (fun hb => ?_) (fun hb => ?_)
                        · have hm := ifB_t hb hm
                          refine lg true rfl rfl rfl ?_
                          refine lp rfl (p_fab fl72_5 rfl) ?_
                          refine lg true rfl rfl rfl ?_
                          refine lp rfl (p_lbs ty9 rfl (j := 1) rfl rfl) ?_
                          refine lg true rfl rfl rfl ?_
                          refine lp rfl (p_nes rfl rfl) ?_
                          refine lg false rfl rfl rfl ?_
                          refine lp rfl (p_pkt rfl rfl) ?_
                          refine lp rfl (p_pkf rfl rfl) ?_
                          refine lp rfl (p_mv rfl) ?_
                          refine lcase (i := 96) (!(a0.Motion.toList == ByteArray.empty.toList)) rfl (fun hb => ?_) (fun hb => ?_)
                          · have hm := ifB_t hb hm
                            refine ls false rfl rfl rfl rfl ?_
                            refine ls false rfl rfl rfl rfl ?_
                            refine ls false rfl rfl rfl rfl ?_
                            refine ls false rfl rfl rfl rfl ?_
                            refine lsu rfl rfl rfl rfl ?_
                            refine lsu rfl rfl rfl rfl ?_
                            refine lsu rfl rfl rfl rfl ?_
                            refine ls false rfl rfl rfl rfl ?_
                            refine lp rfl (p_pkt rfl rfl) ?_
                            refine lp rfl (p_mv rfl) ?_
                            refine ls false rfl rfl rfl rfl ?_
                            refine ls false rfl rfl rfl rfl ?_
                            refine ls false rfl rfl rfl rfl ?_
                            refine ls false rfl rfl rfl rfl ?_
                            refine lsu rfl rfl rfl rfl ?_
                            refine lsu rfl rfl rfl rfl ?_
                            refine ls false rfl rfl rfl rfl ?_
                            refine lp rfl (p_pkt rfl rfl) ?_
                            refine lp rfl (p_mv rfl) ?_
                            refine ls false rfl rfl rfl rfl ?_
                            refine ls false rfl rfl rfl rfl ?_
                            refine ls false rfl rfl rfl rfl ?_
                            refine ls false rfl rfl rfl rfl ?_
                            refine lsu rfl rfl rfl rfl ?_
                            refine lsu rfl rfl rfl rfl ?_
                            refine lsu rfl rfl rfl rfl ?_
                            refine lsu rfl rfl rfl rfl ?_
                            refine lsu rfl rfl rfl rfl ?_
                            refine lsu rfl rfl rfl rfl ?_
                            refine lsu rfl rfl rfl rfl ?_
                            refine lsu rfl rfl rfl rfl ?_
                            refine ls false rfl rfl rfl rfl ?_
                            refine lp rfl (p_pkt rfl rfl) ?_
                            refine lp rfl (p_as rfl) ?_
                            refine lj_nil ?_
                            exact cnk32 _ _ true () (Option.some.inj hm).symm ⟨rfl, rfl, trivial⟩ (fun _ h => h.picks [] rfl)
                          · have hm := ifB_f hb hm
                            refine lg false rfl rfl rfl ?_
                            refine lp rfl (p_fab fl191_2 rfl) ?_
                            refine lg false rfl rfl rfl ?_
                            refine lp rfl (p_lbs ty4 rfl (j := 0) rfl rfl) ?_
                            refine lg false rfl rfl rfl ?_
                            refine lp rfl (p_not rfl) ?_
                            refine lg false rfl rfl rfl ?_
                            refine lp rfl (p_mv rfl) ?_
                            refine lcase (i := 100) (!y9.cents) rfl (fun hb => ?_) (fun hb => ?_)
                            · have hm := ifB_t hb hm
                              refine lg true rfl rfl rfl ?_
                              refine lp rfl (p_fab fl72_6 rfl) ?_
                              refine lg true rfl rfl rfl ?_
                              refine lp rfl (p_lbs ty3 rfl (j := 1) rfl rfl) ?_
                              refine lg true rfl rfl rfl ?_
                              refine lp rfl (p_neq rfl rfl) ?_
                              refine lg false rfl rfl rfl ?_
                              refine lp rfl (p_pkt rfl rfl) ?_
                              refine lp rfl (p_pkf rfl rfl) ?_
                              refine lp rfl (p_mv rfl) ?_
                              refine lcase (i := 106) (a0.Cents != 0) rfl (fun hb => ?_) (fun hb => ?_)
                              · have hm := ifB_t hb hm
                                refine ls false rfl rfl rfl rfl ?_
                                refine ls false rfl rfl rfl rfl ?_
                                refine ls false rfl rfl rfl rfl ?_
                                refine ls false rfl rfl rfl rfl ?_
                                refine lsu rfl rfl rfl rfl ?_
                                refine lsu rfl rfl rfl rfl ?_
                                refine ls false rfl rfl rfl rfl ?_
                                refine lp rfl (p_pkt rfl rfl) ?_
                                refine lp rfl (p_mv rfl) ?_
                                refine ls false rfl rfl rfl rfl ?_
                                refine ls false rfl rfl rfl rfl ?_
                                refine ls false rfl rfl rfl rfl ?_
                                refine ls false rfl rfl rfl rfl ?_
                                refine lsu rfl rfl rfl rfl ?_
                                refine lsu rfl rfl rfl rfl ?_
                                refine lsu rfl rfl rfl rfl ?_
                                refine lsu rfl rfl rfl rfl ?_
                                refine lsu rfl rfl rfl rfl ?_
                                refine lsu rfl rfl rfl rfl ?_
                                refine lsu rfl rfl rfl rfl ?_
                                refine lsu rfl rfl rfl rfl ?_
                                refine ls false rfl rfl rfl rfl ?_
                                refine lp rfl (p_pkt rfl rfl) ?_
                                refine lp rfl (p_as rfl) ?_
                                refine lj_nil ?_
                                exact cnk32 _ _ true () (Option.some.inj hm).symm ⟨rfl, rfl, trivial⟩ (fun _ h => h.picks [] rfl)
                              · have hm := ifB_f hb hm
                                refine lg false rfl rfl rfl ?_
                                refine lp rfl (p_fab fl191_3 rfl) ?_
                                refine lg false rfl rfl rfl ?_
                                refine lp rfl (p_lbs ty4 rfl (j := 0) rfl rfl) ?_
                                refine lg false rfl rfl rfl ?_
                                refine lp rfl (p_not rfl) ?_
                                refine lg false rfl rfl rfl ?_
                                refine lp rfl (p_mv rfl) ?_
                                refine lcase (i := 110) (!y9.yes) rfl (fun hb => ?_) (fun hb => ?_)
                                · have hm := ifB_t hb hm
                                  refine lg true rfl rfl rfl ?_
                                  refine lp rfl (p_fab fl72_7 rfl) ?_
                                  refine lg true rfl rfl rfl ?_
                                  refine lp rfl (p_lbs ty4 rfl (j := 1) rfl rfl) ?_
                                  refine lg false rfl rfl rfl ?_
                                  refine lp rfl (p_pkt rfl rfl) ?_
                                  refine lp rfl (p_pkf rfl rfl) ?_
                                  refine lp rfl (p_mv rfl) ?_
                                  refine lcase (i := 115) a0.Yes rfl (fun hb => ?_) (fun hb => ?_)
                                  · have hm := ifB_t hb hm
                                    refine ls false rfl rfl rfl rfl ?_
                                    refine ls false rfl rfl rfl rfl ?_
                                    refine ls false rfl rfl rfl rfl ?_
                                    refine ls false rfl rfl rfl rfl ?_
                                    refine lsu rfl rfl rfl rfl ?_
                                    refine lsu rfl rfl rfl rfl ?_
                                    refine lsu rfl rfl rfl rfl ?_
                                    refine lsu rfl rfl rfl rfl ?_
                                    refine lsu rfl rfl rfl rfl ?_
                                    refine lsu rfl rfl rfl rfl ?_
                                    refine lsu rfl rfl rfl rfl ?_
                                    refine lsu rfl rfl rfl rfl ?_
                                    refine ls false rfl rfl rfl rfl ?_
                                    refine lp rfl (p_pkt rfl rfl) ?_
                                    refine lp rfl (p_as rfl) ?_
                                    refine lj_nil ?_
                                    exact cnk32 _ _ true () (Option.some.inj hm).symm ⟨rfl, rfl, trivial⟩ (fun _ h => h.picks [] rfl)
                                  · have hm := ifB_f hb hm
                                    refine lg false rfl rfl rfl ?_
                                    refine lp rfl (p_fab fl191_4 rfl) ?_
                                    refine lg false rfl rfl rfl ?_
                                    refine lp rfl (p_lbs ty4 rfl (j := 0) rfl rfl) ?_
                                    refine lg false rfl rfl rfl ?_
                                    refine lp rfl (p_not rfl) ?_
                                    refine lg false rfl rfl rfl ?_
                                    refine lp rfl (p_mv rfl) ?_
                                    refine lcase (i := 119) (!y9.undo) rfl (fun hb => ?_) (fun hb => ?_)
                                    · have hm := ifB_t hb hm
                                      refine lg true rfl rfl rfl ?_
                                      refine lp rfl (p_fab fl72_8 rfl) ?_
                                      refine lg true rfl rfl rfl ?_
                                      refine lp rfl (p_lbs ty9 rfl (j := 1) rfl rfl) ?_
                                      refine lg true rfl rfl rfl ?_
                                      refine lp rfl (p_nes rfl rfl) ?_
                                      refine lg true rfl rfl rfl ?_
                                      refine lp rfl (p_mv rfl) ?_
                                      refine lcase (i := 123) (!(a0.Of.toList == ByteArray.empty.toList)) rfl (fun hb => ?_) (fun hb => ?_)
                                      · have hm := ifB_t hb hm
                                        refine ls false rfl rfl rfl rfl ?_
                                        refine ls false rfl rfl rfl rfl ?_
                                        refine ls false rfl rfl rfl rfl ?_
                                        refine lg true rfl rfl rfl ?_
                                        refine lp rfl (p_pkt rfl rfl) ?_
                                        refine lg false rfl rfl rfl ?_
                                        refine lp rfl (p_pkt rfl rfl) ?_
                                        refine lp rfl (p_pkf rfl rfl) ?_
                                        refine lp rfl (p_as rfl) ?_
                                        refine lj_nil ?_
                                        exact cnk32 _ _ true () (Option.some.inj hm).symm ⟨rfl, rfl, trivial⟩ (fun _ h => h.picks [] rfl)
                                      · have hm := ifB_f hb hm
                                        refine lg false rfl rfl rfl ?_
                                        refine lp rfl (p_fab fl72_9 rfl) ?_
                                        refine lg false rfl rfl rfl ?_
                                        refine lp rfl (p_lbs ty3 rfl (j := 1) rfl rfl) ?_
                                        refine lg false rfl rfl rfl ?_
                                        refine lp rfl (p_neq rfl rfl) ?_
                                        refine lg true rfl rfl rfl ?_
                                        refine lp rfl (p_pkf rfl rfl) ?_
                                        refine lg false rfl rfl rfl ?_
                                        refine lp rfl (p_pkt rfl rfl) ?_
                                        refine lp rfl (p_pkf rfl rfl) ?_
                                        refine lp rfl (p_as rfl) ?_
                                        refine lj_nil ?_
                                        exact cnk32 _ _ (a0.Other != 0) () (Option.some.inj hm).symm ⟨rfl, rfl, trivial⟩ (fun _ h => h.picks [] rfl)
                                    · have hm := ifB_f hb hm
                                      refine ls true rfl rfl rfl rfl ?_
                                      refine ls true rfl rfl rfl rfl ?_
                                      refine ls true rfl rfl rfl rfl ?_
                                      refine ls true rfl rfl rfl rfl ?_
                                      refine lsu rfl rfl rfl rfl ?_
                                      refine lsu rfl rfl rfl rfl ?_
                                      refine lsu rfl rfl rfl rfl ?_
                                      refine ls true rfl rfl rfl rfl ?_
                                      refine lg false rfl rfl rfl ?_
                                      refine lp rfl (p_pkf rfl rfl) ?_
                                      refine lp rfl (p_pkf rfl rfl) ?_
                                      refine lp rfl (p_as rfl) ?_
                                      refine lj_nil ?_
                                      exact cnk32 _ _ false () (Option.some.inj hm).symm ⟨rfl, rfl, trivial⟩ (fun _ h => h.picks [] rfl)
                                · have hm := ifB_f hb hm
                                  refine ls true rfl rfl rfl rfl ?_
                                  refine ls true rfl rfl rfl rfl ?_
                                  refine lg false rfl rfl rfl ?_
                                  refine lp rfl (p_pkf rfl rfl) ?_
                                  refine lp rfl (p_pkf rfl rfl) ?_
                                  refine lp rfl (p_mv rfl) ?_
                                  refine lg false rfl rfl rfl ?_
                                  refine lp rfl (p_fab fl191_4 rfl) ?_
                                  refine lg false rfl rfl rfl ?_
                                  refine lp rfl (p_lbs ty4 rfl (j := 0) rfl rfl) ?_
                                  refine lg false rfl rfl rfl ?_
                                  refine lp rfl (p_not rfl) ?_
                                  refine lg false rfl rfl rfl ?_
                                  refine lp rfl (p_mv rfl) ?_
                                  refine lcase (i := 119) (!y9.undo) rfl (fun hb => ?_) (fun hb => ?_)
                                  · have hm := ifB_t hb hm
                                    refine lg true rfl rfl rfl ?_
                                    refine lp rfl (p_fab fl72_8 rfl) ?_
                                    refine lg true rfl rfl rfl ?_
                                    refine lp rfl (p_lbs ty9 rfl (j := 1) rfl rfl) ?_
                                    refine lg true rfl rfl rfl ?_
                                    refine lp rfl (p_nes rfl rfl) ?_
                                    refine lg true rfl rfl rfl ?_
                                    refine lp rfl (p_mv rfl) ?_
                                    refine lcase (i := 123) (!(a0.Of.toList == ByteArray.empty.toList)) rfl (fun hb => ?_) (fun hb => ?_)
                                    · have hm := ifB_t hb hm
                                      refine ls false rfl rfl rfl rfl ?_
                                      refine ls false rfl rfl rfl rfl ?_
                                      refine ls false rfl rfl rfl rfl ?_
                                      refine lg true rfl rfl rfl ?_
                                      refine lp rfl (p_pkt rfl rfl) ?_
                                      refine lg false rfl rfl rfl ?_
                                      refine lp rfl (p_pkt rfl rfl) ?_
                                      refine lp rfl (p_pkf rfl rfl) ?_
                                      refine lp rfl (p_as rfl) ?_
                                      refine lj_nil ?_
                                      exact cnk32 _ _ true () (Option.some.inj hm).symm ⟨rfl, rfl, trivial⟩ (fun _ h => h.picks [] rfl)
                                    · have hm := ifB_f hb hm
                                      refine lg false rfl rfl rfl ?_
                                      refine lp rfl (p_fab fl72_9 rfl) ?_
                                      refine lg false rfl rfl rfl ?_
                                      refine lp rfl (p_lbs ty3 rfl (j := 1) rfl rfl) ?_
                                      refine lg false rfl rfl rfl ?_
                                      refine lp rfl (p_neq rfl rfl) ?_
                                      refine lg true rfl rfl rfl ?_
                                      refine lp rfl (p_pkf rfl rfl) ?_
                                      refine lg false rfl rfl rfl ?_
                                      refine lp rfl (p_pkt rfl rfl) ?_
                                      refine lp rfl (p_pkf rfl rfl) ?_
                                      refine lp rfl (p_as rfl) ?_
                                      refine lj_nil ?_
                                      exact cnk32 _ _ (a0.Other != 0) () (Option.some.inj hm).symm ⟨rfl, rfl, trivial⟩ (fun _ h => h.picks [] rfl)
                                  · have hm := ifB_f hb hm
                                    refine ls true rfl rfl rfl rfl ?_
                                    refine ls true rfl rfl rfl rfl ?_
                                    refine ls true rfl rfl rfl rfl ?_
                                    refine ls true rfl rfl rfl rfl ?_
                                    refine lsu rfl rfl rfl rfl ?_
                                    refine lsu rfl rfl rfl rfl ?_
                                    refine lsu rfl rfl rfl rfl ?_
                                    refine ls true rfl rfl rfl rfl ?_
                                    refine lg false rfl rfl rfl ?_
                                    refine lp rfl (p_pkf rfl rfl) ?_
                                    refine lp rfl (p_pkf rfl rfl) ?_
                                    refine lp rfl (p_as rfl) ?_
                                    refine lj_nil ?_
                                    exact cnk32 _ _ false () (Option.some.inj hm).symm ⟨rfl, rfl, trivial⟩ (fun _ h => h.picks [] rfl)
                            · have hm := ifB_f hb hm
                              refine ls true rfl rfl rfl rfl ?_
                              refine ls true rfl rfl rfl rfl ?_
                              refine ls true rfl rfl rfl rfl ?_
                              refine lg false rfl rfl rfl ?_
                              refine lp rfl (p_pkf rfl rfl) ?_
                              refine lp rfl (p_pkf rfl rfl) ?_
                              refine lp rfl (p_mv rfl) ?_
                              refine lg false rfl rfl rfl ?_
                              refine lp rfl (p_fab fl191_3 rfl) ?_
                              refine lg false rfl rfl rfl ?_
                              refine lp rfl (p_lbs ty4 rfl (j := 0) rfl rfl) ?_
                              refine lg false rfl rfl rfl ?_
                              refine lp rfl (p_not rfl) ?_
                              refine lg false rfl rfl rfl ?_
                              refine lp rfl (p_mv rfl) ?_
                              refine lcase (i := 110) (!y9.yes) rfl (fun hb => ?_) (fun hb => ?_)
                              · have hm := ifB_t hb hm
                                refine lg true rfl rfl rfl ?_
                                refine lp rfl (p_fab fl72_7 rfl) ?_
                                refine lg true rfl rfl rfl ?_
                                refine lp rfl (p_lbs ty4 rfl (j := 1) rfl rfl) ?_
                                refine lg false rfl rfl rfl ?_
                                refine lp rfl (p_pkt rfl rfl) ?_
                                refine lp rfl (p_pkf rfl rfl) ?_
                                refine lp rfl (p_mv rfl) ?_
                                refine lcase (i := 115) a0.Yes rfl (fun hb => ?_) (fun hb => ?_)
                                · have hm := ifB_t hb hm
                                  refine ls false rfl rfl rfl rfl ?_
                                  refine ls false rfl rfl rfl rfl ?_
                                  refine ls false rfl rfl rfl rfl ?_
                                  refine ls false rfl rfl rfl rfl ?_
                                  refine lsu rfl rfl rfl rfl ?_
                                  refine lsu rfl rfl rfl rfl ?_
                                  refine lsu rfl rfl rfl rfl ?_
                                  refine lsu rfl rfl rfl rfl ?_
                                  refine lsu rfl rfl rfl rfl ?_
                                  refine lsu rfl rfl rfl rfl ?_
                                  refine lsu rfl rfl rfl rfl ?_
                                  refine lsu rfl rfl rfl rfl ?_
                                  refine ls false rfl rfl rfl rfl ?_
                                  refine lp rfl (p_pkt rfl rfl) ?_
                                  refine lp rfl (p_as rfl) ?_
                                  refine lj_nil ?_
                                  exact cnk32 _ _ true () (Option.some.inj hm).symm ⟨rfl, rfl, trivial⟩ (fun _ h => h.picks [] rfl)
                                · have hm := ifB_f hb hm
                                  refine lg false rfl rfl rfl ?_
                                  refine lp rfl (p_fab fl191_4 rfl) ?_
                                  refine lg false rfl rfl rfl ?_
                                  refine lp rfl (p_lbs ty4 rfl (j := 0) rfl rfl) ?_
                                  refine lg false rfl rfl rfl ?_
                                  refine lp rfl (p_not rfl) ?_
                                  refine lg false rfl rfl rfl ?_
                                  refine lp rfl (p_mv rfl) ?_
                                  refine lcase (i := 119) (!y9.undo) rfl (fun hb => ?_) (fun hb => ?_)
                                  · have hm := ifB_t hb hm
                                    refine lg true rfl rfl rfl ?_
                                    refine lp rfl (p_fab fl72_8 rfl) ?_
                                    refine lg true rfl rfl rfl ?_
                                    refine lp rfl (p_lbs ty9 rfl (j := 1) rfl rfl) ?_
                                    refine lg true rfl rfl rfl ?_
                                    refine lp rfl (p_nes rfl rfl) ?_
                                    refine lg true rfl rfl rfl ?_
                                    refine lp rfl (p_mv rfl) ?_
                                    refine lcase (i := 123) (!(a0.Of.toList == ByteArray.empty.toList)) rfl (fun hb => ?_) (fun hb => ?_)
                                    · have hm := ifB_t hb hm
                                      refine ls false rfl rfl rfl rfl ?_
                                      refine ls false rfl rfl rfl rfl ?_
                                      refine ls false rfl rfl rfl rfl ?_
                                      refine lg true rfl rfl rfl ?_
                                      refine lp rfl (p_pkt rfl rfl) ?_
                                      refine lg false rfl rfl rfl ?_
                                      refine lp rfl (p_pkt rfl rfl) ?_
                                      refine lp rfl (p_pkf rfl rfl) ?_
                                      refine lp rfl (p_as rfl) ?_
                                      refine lj_nil ?_
                                      exact cnk32 _ _ true () (Option.some.inj hm).symm ⟨rfl, rfl, trivial⟩ (fun _ h => h.picks [] rfl)
                                    · have hm := ifB_f hb hm
                                      refine lg false rfl rfl rfl ?_
                                      refine lp rfl (p_fab fl72_9 rfl) ?_
                                      refine lg false rfl rfl rfl ?_
                                      refine lp rfl (p_lbs ty3 rfl (j := 1) rfl rfl) ?_
                                      refine lg false rfl rfl rfl ?_
                                      refine lp rfl (p_neq rfl rfl) ?_
                                      refine lg true rfl rfl rfl ?_
                                      refine lp rfl (p_pkf rfl rfl) ?_
                                      refine lg false rfl rfl rfl ?_
                                      refine lp rfl (p_pkt rfl rfl) ?_
                                      refine lp rfl (p_pkf rfl rfl) ?_
                                      refine lp rfl (p_as rfl) ?_
                                      refine lj_nil ?_
                                      exact cnk32 _ _ (a0.Other != 0) () (Option.some.inj hm).symm ⟨rfl, rfl, trivial⟩ (fun _ h => h.picks [] rfl)
                                  · have hm := ifB_f hb hm
                                    refine ls true rfl rfl rfl rfl ?_
                                    refine ls true rfl rfl rfl rfl ?_
                                    refine ls true rfl rfl rfl rfl ?_
                                    refine ls true rfl rfl rfl rfl ?_
                                    refine lsu rfl rfl rfl rfl ?_
                                    refine lsu rfl rfl rfl rfl ?_
                                    refine lsu rfl rfl rfl rfl ?_
                                    refine ls true rfl rfl rfl rfl ?_
                                    refine lg false rfl rfl rfl ?_
                                    refine lp rfl (p_pkf rfl rfl) ?_
                                    refine lp rfl (p_pkf rfl rfl) ?_
                                    refine lp rfl (p_as rfl) ?_
                                    refine lj_nil ?_
                                    exact cnk32 _ _ false () (Option.some.inj hm).symm ⟨rfl, rfl, trivial⟩ (fun _ h => h.picks [] rfl)
                              · have hm := ifB_f hb hm
                                refine ls true rfl rfl rfl rfl ?_
                                refine ls true rfl rfl rfl rfl ?_
                                refine lg false rfl rfl rfl ?_
                                refine lp rfl (p_pkf rfl rfl) ?_
                                refine lp rfl (p_pkf rfl rfl) ?_
                                refine lp rfl (p_mv rfl) ?_
                                refine lg false rfl rfl rfl ?_
                                refine lp rfl (p_fab fl191_4 rfl) ?_
                                refine lg false rfl rfl rfl ?_
                                refine lp rfl (p_lbs ty4 rfl (j := 0) rfl rfl) ?_
                                refine lg false rfl rfl rfl ?_
                                refine lp rfl (p_not rfl) ?_
                                refine lg false rfl rfl rfl ?_
                                refine lp rfl (p_mv rfl) ?_
                                refine lcase (i := 119) (!y9.undo) rfl (fun hb => ?_) (fun hb => ?_)
                                · have hm := ifB_t hb hm
                                  refine lg true rfl rfl rfl ?_
                                  refine lp rfl (p_fab fl72_8 rfl) ?_
                                  refine lg true rfl rfl rfl ?_
                                  refine lp rfl (p_lbs ty9 rfl (j := 1) rfl rfl) ?_
                                  refine lg true rfl rfl rfl ?_
                                  refine lp rfl (p_nes rfl rfl) ?_
                                  refine lg true rfl rfl rfl ?_
                                  refine lp rfl (p_mv rfl) ?_
                                  refine lcase (i := 123) (!(a0.Of.toList == ByteArray.empty.toList)) rfl (fun hb => ?_) (fun hb => ?_)
                                  · have hm := ifB_t hb hm
                                    refine ls false rfl rfl rfl rfl ?_
                                    refine ls false rfl rfl rfl rfl ?_
                                    refine ls false rfl rfl rfl rfl ?_
                                    refine lg true rfl rfl rfl ?_
                                    refine lp rfl (p_pkt rfl rfl) ?_
                                    refine lg false rfl rfl rfl ?_
                                    refine lp rfl (p_pkt rfl rfl) ?_
                                    refine lp rfl (p_pkf rfl rfl) ?_
                                    refine lp rfl (p_as rfl) ?_
                                    refine lj_nil ?_
                                    exact cnk32 _ _ true () (Option.some.inj hm).symm ⟨rfl, rfl, trivial⟩ (fun _ h => h.picks [] rfl)
                                  · have hm := ifB_f hb hm
                                    refine lg false rfl rfl rfl ?_
                                    refine lp rfl (p_fab fl72_9 rfl) ?_
                                    refine lg false rfl rfl rfl ?_
                                    refine lp rfl (p_lbs ty3 rfl (j := 1) rfl rfl) ?_
                                    refine lg false rfl rfl rfl ?_
                                    refine lp rfl (p_neq rfl rfl) ?_
                                    refine lg true rfl rfl rfl ?_
                                    refine lp rfl (p_pkf rfl rfl) ?_
                                    refine lg false rfl rfl rfl ?_
                                    refine lp rfl (p_pkt rfl rfl) ?_
                                    refine lp rfl (p_pkf rfl rfl) ?_
                                    refine lp rfl (p_as rfl) ?_
                                    refine lj_nil ?_
                                    exact cnk32 _ _ (a0.Other != 0) () (Option.some.inj hm).symm ⟨rfl, rfl, trivial⟩ (fun _ h => h.picks [] rfl)
                                · have hm := ifB_f hb hm
                                  refine ls true rfl rfl rfl rfl ?_
                                  refine ls true rfl rfl rfl rfl ?_
                                  refine ls true rfl rfl rfl rfl ?_
                                  refine ls true rfl rfl rfl rfl ?_
                                  refine lsu rfl rfl rfl rfl ?_
                                  refine lsu rfl rfl rfl rfl ?_
                                  refine lsu rfl rfl rfl rfl ?_
                                  refine ls true rfl rfl rfl rfl ?_
                                  refine lg false rfl rfl rfl ?_
                                  refine lp rfl (p_pkf rfl rfl) ?_
                                  refine lp rfl (p_pkf rfl rfl) ?_
                                  refine lp rfl (p_as rfl) ?_
                                  refine lj_nil ?_
                                  exact cnk32 _ _ false () (Option.some.inj hm).symm ⟨rfl, rfl, trivial⟩ (fun _ h => h.picks [] rfl)
                        · have hm := ifB_f hb hm
                          refine ls true rfl rfl rfl rfl ?_
                          refine ls true rfl rfl rfl rfl ?_
                          refine ls true rfl rfl rfl rfl ?_
                          refine lg false rfl rfl rfl ?_
                          refine lp rfl (p_pkf rfl rfl) ?_
                          refine lp rfl (p_pkf rfl rfl) ?_
                          refine lp rfl (p_mv rfl) ?_
                          refine lg false rfl rfl rfl ?_
                          refine lp rfl (p_fab fl191_2 rfl) ?_
                          refine lg false rfl rfl rfl ?_
                          refine lp rfl (p_lbs ty4 rfl (j := 0) rfl rfl) ?_
                          refine lg false rfl rfl rfl ?_
                          refine lp rfl (p_not rfl) ?_
                          refine lg false rfl rfl rfl ?_
                          refine lp rfl (p_mv rfl) ?_
                          refine lcase (i := 100) (!y9.cents) rfl (fun hb => ?_) (fun hb => ?_)
                          · have hm := ifB_t hb hm
                            refine lg true rfl rfl rfl ?_
                            refine lp rfl (p_fab fl72_6 rfl) ?_
                            refine lg true rfl rfl rfl ?_
                            refine lp rfl (p_lbs ty3 rfl (j := 1) rfl rfl) ?_
                            refine lg true rfl rfl rfl ?_
                            refine lp rfl (p_neq rfl rfl) ?_
                            refine lg false rfl rfl rfl ?_
                            refine lp rfl (p_pkt rfl rfl) ?_
                            refine lp rfl (p_pkf rfl rfl) ?_
                            refine lp rfl (p_mv rfl) ?_
                            refine lcase (i := 106) (a0.Cents != 0) rfl (fun hb => ?_) (fun hb => ?_)
                            · have hm := ifB_t hb hm
                              refine ls false rfl rfl rfl rfl ?_
                              refine ls false rfl rfl rfl rfl ?_
                              refine ls false rfl rfl rfl rfl ?_
                              refine ls false rfl rfl rfl rfl ?_
                              refine lsu rfl rfl rfl rfl ?_
                              refine lsu rfl rfl rfl rfl ?_
                              refine ls false rfl rfl rfl rfl ?_
                              refine lp rfl (p_pkt rfl rfl) ?_
                              refine lp rfl (p_mv rfl) ?_
                              refine ls false rfl rfl rfl rfl ?_
                              refine ls false rfl rfl rfl rfl ?_
                              refine ls false rfl rfl rfl rfl ?_
                              refine ls false rfl rfl rfl rfl ?_
                              refine lsu rfl rfl rfl rfl ?_
                              refine lsu rfl rfl rfl rfl ?_
                              refine lsu rfl rfl rfl rfl ?_
                              refine lsu rfl rfl rfl rfl ?_
                              refine lsu rfl rfl rfl rfl ?_
                              refine lsu rfl rfl rfl rfl ?_
                              refine lsu rfl rfl rfl rfl ?_
                              refine lsu rfl rfl rfl rfl ?_
                              refine ls false rfl rfl rfl rfl ?_
                              refine lp rfl (p_pkt rfl rfl) ?_
                              refine lp rfl (p_as rfl) ?_
                              refine lj_nil ?_
                              exact cnk32 _ _ true () (Option.some.inj hm).symm ⟨rfl, rfl, trivial⟩ (fun _ h => h.picks [] rfl)
                            · have hm := ifB_f hb hm
                              refine lg false rfl rfl rfl ?_
                              refine lp rfl (p_fab fl191_3 rfl) ?_
                              refine lg false rfl rfl rfl ?_
                              refine lp rfl (p_lbs ty4 rfl (j := 0) rfl rfl) ?_
                              refine lg false rfl rfl rfl ?_
                              refine lp rfl (p_not rfl) ?_
                              refine lg false rfl rfl rfl ?_
                              refine lp rfl (p_mv rfl) ?_
                              refine lcase (i := 110) (!y9.yes) rfl (fun hb => ?_) (fun hb => ?_)
                              · have hm := ifB_t hb hm
                                refine lg true rfl rfl rfl ?_
                                refine lp rfl (p_fab fl72_7 rfl) ?_
                                refine lg true rfl rfl rfl ?_
                                refine lp rfl (p_lbs ty4 rfl (j := 1) rfl rfl) ?_
                                refine lg false rfl rfl rfl ?_
                                refine lp rfl (p_pkt rfl rfl) ?_
                                refine lp rfl (p_pkf rfl rfl) ?_
                                refine lp rfl (p_mv rfl) ?_
                                refine lcase (i := 115) a0.Yes rfl (fun hb => ?_) (fun hb => ?_)
                                · have hm := ifB_t hb hm
                                  refine ls false rfl rfl rfl rfl ?_
                                  refine ls false rfl rfl rfl rfl ?_
                                  refine ls false rfl rfl rfl rfl ?_
                                  refine ls false rfl rfl rfl rfl ?_
                                  refine lsu rfl rfl rfl rfl ?_
                                  refine lsu rfl rfl rfl rfl ?_
                                  refine lsu rfl rfl rfl rfl ?_
                                  refine lsu rfl rfl rfl rfl ?_
                                  refine lsu rfl rfl rfl rfl ?_
                                  refine lsu rfl rfl rfl rfl ?_
                                  refine lsu rfl rfl rfl rfl ?_
                                  refine lsu rfl rfl rfl rfl ?_
                                  refine ls false rfl rfl rfl rfl ?_
                                  refine lp rfl (p_pkt rfl rfl) ?_
                                  refine lp rfl (p_as rfl) ?_
                                  refine lj_nil ?_
                                  exact cnk32 _ _ true () (Option.some.inj hm).symm ⟨rfl, rfl, trivial⟩ (fun _ h => h.picks [] rfl)
                                · have hm := ifB_f hb hm
                                  refine lg false rfl rfl rfl ?_
                                  refine lp rfl (p_fab fl191_4 rfl) ?_
                                  refine lg false rfl rfl rfl ?_
                                  refine lp rfl (p_lbs ty4 rfl (j := 0) rfl rfl) ?_
                                  refine lg false rfl rfl rfl ?_
                                  refine lp rfl (p_not rfl) ?_
                                  refine lg false rfl rfl rfl ?_
                                  refine lp rfl (p_mv rfl) ?_
                                  refine lcase (i := 119) (!y9.undo) rfl (fun hb => ?_) (fun hb => ?_)
                                  · have hm := ifB_t hb hm
                                    refine lg true rfl rfl rfl ?_
                                    refine lp rfl (p_fab fl72_8 rfl) ?_
                                    refine lg true rfl rfl rfl ?_
                                    refine lp rfl (p_lbs ty9 rfl (j := 1) rfl rfl) ?_
                                    refine lg true rfl rfl rfl ?_
                                    refine lp rfl (p_nes rfl rfl) ?_
                                    refine lg true rfl rfl rfl ?_
                                    refine lp rfl (p_mv rfl) ?_
                                    refine lcase (i := 123) (!(a0.Of.toList == ByteArray.empty.toList)) rfl (fun hb => ?_) (fun hb => ?_)
                                    · have hm := ifB_t hb hm
                                      refine ls false rfl rfl rfl rfl ?_
                                      refine ls false rfl rfl rfl rfl ?_
                                      refine ls false rfl rfl rfl rfl ?_
                                      refine lg true rfl rfl rfl ?_
                                      refine lp rfl (p_pkt rfl rfl) ?_
                                      refine lg false rfl rfl rfl ?_
                                      refine lp rfl (p_pkt rfl rfl) ?_
                                      refine lp rfl (p_pkf rfl rfl) ?_
                                      refine lp rfl (p_as rfl) ?_
                                      refine lj_nil ?_
                                      exact cnk32 _ _ true () (Option.some.inj hm).symm ⟨rfl, rfl, trivial⟩ (fun _ h => h.picks [] rfl)
                                    · have hm := ifB_f hb hm
                                      refine lg false rfl rfl rfl ?_
                                      refine lp rfl (p_fab fl72_9 rfl) ?_
                                      refine lg false rfl rfl rfl ?_
                                      refine lp rfl (p_lbs ty3 rfl (j := 1) rfl rfl) ?_
                                      refine lg false rfl rfl rfl ?_
                                      refine lp rfl (p_neq rfl rfl) ?_
                                      refine lg true rfl rfl rfl ?_
                                      refine lp rfl (p_pkf rfl rfl) ?_
                                      refine lg false rfl rfl rfl ?_
                                      refine lp rfl (p_pkt rfl rfl) ?_
                                      refine lp rfl (p_pkf rfl rfl) ?_
                                      refine lp rfl (p_as rfl) ?_
                                      refine lj_nil ?_
                                      exact cnk32 _ _ (a0.Other != 0) () (Option.some.inj hm).symm ⟨rfl, rfl, trivial⟩ (fun _ h => h.picks [] rfl)
                                  · have hm := ifB_f hb hm
                                    refine ls true rfl rfl rfl rfl ?_
                                    refine ls true rfl rfl rfl rfl ?_
                                    refine ls true rfl rfl rfl rfl ?_
                                    refine ls true rfl rfl rfl rfl ?_
                                    refine lsu rfl rfl rfl rfl ?_
                                    refine lsu rfl rfl rfl rfl ?_
                                    refine lsu rfl rfl rfl rfl ?_
                                    refine ls true rfl rfl rfl rfl ?_
                                    refine lg false rfl rfl rfl ?_
                                    refine lp rfl (p_pkf rfl rfl) ?_
                                    refine lp rfl (p_pkf rfl rfl) ?_
                                    refine lp rfl (p_as rfl) ?_
                                    refine lj_nil ?_
                                    exact cnk32 _ _ false () (Option.some.inj hm).symm ⟨rfl, rfl, trivial⟩ (fun _ h => h.picks [] rfl)
                              · have hm := ifB_f hb hm
                                refine ls true rfl rfl rfl rfl ?_
                                refine ls true rfl rfl rfl rfl ?_
                                refine lg false rfl rfl rfl ?_
                                refine lp rfl (p_pkf rfl rfl) ?_
                                refine lp rfl (p_pkf rfl rfl) ?_
                                refine lp rfl (p_mv rfl) ?_
                                refine lg false rfl rfl rfl ?_
                                refine lp rfl (p_fab fl191_4 rfl) ?_
                                refine lg false rfl rfl rfl ?_
                                refine lp rfl (p_lbs ty4 rfl (j := 0) rfl rfl) ?_
                                refine lg false rfl rfl rfl ?_
                                refine lp rfl (p_not rfl) ?_
                                refine lg false rfl rfl rfl ?_
                                refine lp rfl (p_mv rfl) ?_
                                refine lcase (i := 119) (!y9.undo) rfl (fun hb => ?_) (fun hb => ?_)
                                · have hm := ifB_t hb hm
                                  refine lg true rfl rfl rfl ?_
                                  refine lp rfl (p_fab fl72_8 rfl) ?_
                                  refine lg true rfl rfl rfl ?_
                                  refine lp rfl (p_lbs ty9 rfl (j := 1) rfl rfl) ?_
                                  refine lg true rfl rfl rfl ?_
                                  refine lp rfl (p_nes rfl rfl) ?_
                                  refine lg true rfl rfl rfl ?_
                                  refine lp rfl (p_mv rfl) ?_
                                  refine lcase (i := 123) (!(a0.Of.toList == ByteArray.empty.toList)) rfl (fun hb => ?_) (fun hb => ?_)
                                  · have hm := ifB_t hb hm
                                    refine ls false rfl rfl rfl rfl ?_
                                    refine ls false rfl rfl rfl rfl ?_
                                    refine ls false rfl rfl rfl rfl ?_
                                    refine lg true rfl rfl rfl ?_
                                    refine lp rfl (p_pkt rfl rfl) ?_
                                    refine lg false rfl rfl rfl ?_
                                    refine lp rfl (p_pkt rfl rfl) ?_
                                    refine lp rfl (p_pkf rfl rfl) ?_
                                    refine lp rfl (p_as rfl) ?_
                                    refine lj_nil ?_
                                    exact cnk32 _ _ true () (Option.some.inj hm).symm ⟨rfl, rfl, trivial⟩ (fun _ h => h.picks [] rfl)
                                  · have hm := ifB_f hb hm
                                    refine lg false rfl rfl rfl ?_
                                    refine lp rfl (p_fab fl72_9 rfl) ?_
                                    refine lg false rfl rfl rfl ?_
                                    refine lp rfl (p_lbs ty3 rfl (j := 1) rfl rfl) ?_
                                    refine lg false rfl rfl rfl ?_
                                    refine lp rfl (p_neq rfl rfl) ?_
                                    refine lg true rfl rfl rfl ?_
                                    refine lp rfl (p_pkf rfl rfl) ?_
                                    refine lg false rfl rfl rfl ?_
                                    refine lp rfl (p_pkt rfl rfl) ?_
                                    refine lp rfl (p_pkf rfl rfl) ?_
                                    refine lp rfl (p_as rfl) ?_
                                    refine lj_nil ?_
                                    exact cnk32 _ _ (a0.Other != 0) () (Option.some.inj hm).symm ⟨rfl, rfl, trivial⟩ (fun _ h => h.picks [] rfl)
                                · have hm := ifB_f hb hm
                                  refine ls true rfl rfl rfl rfl ?_
                                  refine ls true rfl rfl rfl rfl ?_
                                  refine ls true rfl rfl rfl rfl ?_
                                  refine ls true rfl rfl rfl rfl ?_
                                  refine lsu rfl rfl rfl rfl ?_
                                  refine lsu rfl rfl rfl rfl ?_
                                  refine lsu rfl rfl rfl rfl ?_
                                  refine ls true rfl rfl rfl rfl ?_
                                  refine lg false rfl rfl rfl ?_
                                  refine lp rfl (p_pkf rfl rfl) ?_
                                  refine lp rfl (p_pkf rfl rfl) ?_
                                  refine lp rfl (p_as rfl) ?_
                                  refine lj_nil ?_
                                  exact cnk32 _ _ false () (Option.some.inj hm).symm ⟨rfl, rfl, trivial⟩ (fun _ h => h.picks [] rfl)
                          · have hm := ifB_f hb hm
                            refine ls true rfl rfl rfl rfl ?_
                            refine ls true rfl rfl rfl rfl ?_
                            refine ls true rfl rfl rfl rfl ?_
                            refine lg false rfl rfl rfl ?_
                            refine lp rfl (p_pkf rfl rfl) ?_
                            refine lp rfl (p_pkf rfl rfl) ?_
                            refine lp rfl (p_mv rfl) ?_
                            refine lg false rfl rfl rfl ?_
                            refine lp rfl (p_fab fl191_3 rfl) ?_
                            refine lg false rfl rfl rfl ?_
                            refine lp rfl (p_lbs ty4 rfl (j := 0) rfl rfl) ?_
                            refine lg false rfl rfl rfl ?_
                            refine lp rfl (p_not rfl) ?_
                            refine lg false rfl rfl rfl ?_
                            refine lp rfl (p_mv rfl) ?_
                            refine lcase (i := 110) (!y9.yes) rfl (fun hb => ?_) (fun hb => ?_)
                            · have hm := ifB_t hb hm
                              refine lg true rfl rfl rfl ?_
                              refine lp rfl (p_fab fl72_7 rfl) ?_
                              refine lg true rfl rfl rfl ?_
                              refine lp rfl (p_lbs ty4 rfl (j := 1) rfl rfl) ?_
                              refine lg false rfl rfl rfl ?_
                              refine lp rfl (p_pkt rfl rfl) ?_
                              refine lp rfl (p_pkf rfl rfl) ?_
                              refine lp rfl (p_mv rfl) ?_
                              refine lcase (i := 115) a0.Yes rfl (fun hb => ?_) (fun hb => ?_)
                              · have hm := ifB_t hb hm
                                refine ls false rfl rfl rfl rfl ?_
                                refine ls false rfl rfl rfl rfl ?_
                                refine ls false rfl rfl rfl rfl ?_
                                refine ls false rfl rfl rfl rfl ?_
                                refine lsu rfl rfl rfl rfl ?_
                                refine lsu rfl rfl rfl rfl ?_
                                refine lsu rfl rfl rfl rfl ?_
                                refine lsu rfl rfl rfl rfl ?_
                                refine lsu rfl rfl rfl rfl ?_
                                refine lsu rfl rfl rfl rfl ?_
                                refine lsu rfl rfl rfl rfl ?_
                                refine lsu rfl rfl rfl rfl ?_
                                refine ls false rfl rfl rfl rfl ?_
                                refine lp rfl (p_pkt rfl rfl) ?_
                                refine lp rfl (p_as rfl) ?_
                                refine lj_nil ?_
                                exact cnk32 _ _ true () (Option.some.inj hm).symm ⟨rfl, rfl, trivial⟩ (fun _ h => h.picks [] rfl)
                              · have hm := ifB_f hb hm
                                refine lg false rfl rfl rfl ?_
                                refine lp rfl (p_fab fl191_4 rfl) ?_
                                refine lg false rfl rfl rfl ?_
                                refine lp rfl (p_lbs ty4 rfl (j := 0) rfl rfl) ?_
                                refine lg false rfl rfl rfl ?_
                                refine lp rfl (p_not rfl) ?_
                                refine lg false rfl rfl rfl ?_
                                refine lp rfl (p_mv rfl) ?_
                                refine lcase (i := 119) (!y9.undo) rfl (fun hb => ?_) (fun hb => ?_)
                                · have hm := ifB_t hb hm
                                  refine lg true rfl rfl rfl ?_
                                  refine lp rfl (p_fab fl72_8 rfl) ?_
                                  refine lg true rfl rfl rfl ?_
                                  refine lp rfl (p_lbs ty9 rfl (j := 1) rfl rfl) ?_
                                  refine lg true rfl rfl rfl ?_
                                  refine lp rfl (p_nes rfl rfl) ?_
                                  refine lg true rfl rfl rfl ?_
                                  refine lp rfl (p_mv rfl) ?_
                                  refine lcase (i := 123) (!(a0.Of.toList == ByteArray.empty.toList)) rfl (fun hb => ?_) (fun hb => ?_)
                                  · have hm := ifB_t hb hm
                                    refine ls false rfl rfl rfl rfl ?_
                                    refine ls false rfl rfl rfl rfl ?_
                                    refine ls false rfl rfl rfl rfl ?_
                                    refine lg true rfl rfl rfl ?_
                                    refine lp rfl (p_pkt rfl rfl) ?_
                                    refine lg false rfl rfl rfl ?_
                                    refine lp rfl (p_pkt rfl rfl) ?_
                                    refine lp rfl (p_pkf rfl rfl) ?_
                                    refine lp rfl (p_as rfl) ?_
                                    refine lj_nil ?_
                                    exact cnk32 _ _ true () (Option.some.inj hm).symm ⟨rfl, rfl, trivial⟩ (fun _ h => h.picks [] rfl)
                                  · have hm := ifB_f hb hm
                                    refine lg false rfl rfl rfl ?_
                                    refine lp rfl (p_fab fl72_9 rfl) ?_
                                    refine lg false rfl rfl rfl ?_
                                    refine lp rfl (p_lbs ty3 rfl (j := 1) rfl rfl) ?_
                                    refine lg false rfl rfl rfl ?_
                                    refine lp rfl (p_neq rfl rfl) ?_
                                    refine lg true rfl rfl rfl ?_
                                    refine lp rfl (p_pkf rfl rfl) ?_
                                    refine lg false rfl rfl rfl ?_
                                    refine lp rfl (p_pkt rfl rfl) ?_
                                    refine lp rfl (p_pkf rfl rfl) ?_
                                    refine lp rfl (p_as rfl) ?_
                                    refine lj_nil ?_
                                    exact cnk32 _ _ (a0.Other != 0) () (Option.some.inj hm).symm ⟨rfl, rfl, trivial⟩ (fun _ h => h.picks [] rfl)
                                · have hm := ifB_f hb hm
                                  refine ls true rfl rfl rfl rfl ?_
                                  refine ls true rfl rfl rfl rfl ?_
                                  refine ls true rfl rfl rfl rfl ?_
                                  refine ls true rfl rfl rfl rfl ?_
                                  refine lsu rfl rfl rfl rfl ?_
                                  refine lsu rfl rfl rfl rfl ?_
                                  refine lsu rfl rfl rfl rfl ?_
                                  refine ls true rfl rfl rfl rfl ?_
                                  refine lg false rfl rfl rfl ?_
                                  refine lp rfl (p_pkf rfl rfl) ?_
                                  refine lp rfl (p_pkf rfl rfl) ?_
                                  refine lp rfl (p_as rfl) ?_
                                  refine lj_nil ?_
                                  exact cnk32 _ _ false () (Option.some.inj hm).symm ⟨rfl, rfl, trivial⟩ (fun _ h => h.picks [] rfl)
                            · have hm := ifB_f hb hm
                              refine ls true rfl rfl rfl rfl ?_
                              refine ls true rfl rfl rfl rfl ?_
                              refine lg false rfl rfl rfl ?_
                              refine lp rfl (p_pkf rfl rfl) ?_
                              refine lp rfl (p_pkf rfl rfl) ?_
                              refine lp rfl (p_mv rfl) ?_
                              refine lg false rfl rfl rfl ?_
                              refine lp rfl (p_fab fl191_4 rfl) ?_
                              refine lg false rfl rfl rfl ?_
                              refine lp rfl (p_lbs ty4 rfl (j := 0) rfl rfl) ?_
                              refine lg false rfl rfl rfl ?_
                              refine lp rfl (p_not rfl) ?_
                              refine lg false rfl rfl rfl ?_
                              refine lp rfl (p_mv rfl) ?_
                              refine lcase (i := 119) (!y9.undo) rfl (fun hb => ?_) (fun hb => ?_)
                              · have hm := ifB_t hb hm
                                refine lg true rfl rfl rfl ?_
                                refine lp rfl (p_fab fl72_8 rfl) ?_
                                refine lg true rfl rfl rfl ?_
                                refine lp rfl (p_lbs ty9 rfl (j := 1) rfl rfl) ?_
                                refine lg true rfl rfl rfl ?_
                                refine lp rfl (p_nes rfl rfl) ?_
                                refine lg true rfl rfl rfl ?_
                                refine lp rfl (p_mv rfl) ?_
                                refine lcase (i := 123) (!(a0.Of.toList == ByteArray.empty.toList)) rfl (fun hb => ?_) (fun hb => ?_)
                                · have hm := ifB_t hb hm
                                  refine ls false rfl rfl rfl rfl ?_
                                  refine ls false rfl rfl rfl rfl ?_
                                  refine ls false rfl rfl rfl rfl ?_
                                  refine lg true rfl rfl rfl ?_
                                  refine lp rfl (p_pkt rfl rfl) ?_
                                  refine lg false rfl rfl rfl ?_
                                  refine lp rfl (p_pkt rfl rfl) ?_
                                  refine lp rfl (p_pkf rfl rfl) ?_
                                  refine lp rfl (p_as rfl) ?_
                                  refine lj_nil ?_
                                  exact cnk32 _ _ true () (Option.some.inj hm).symm ⟨rfl, rfl, trivial⟩ (fun _ h => h.picks [] rfl)
                                · have hm := ifB_f hb hm
                                  refine lg false rfl rfl rfl ?_
                                  refine lp rfl (p_fab fl72_9 rfl) ?_
                                  refine lg false rfl rfl rfl ?_
                                  refine lp rfl (p_lbs ty3 rfl (j := 1) rfl rfl) ?_
                                  refine lg false rfl rfl rfl ?_
                                  refine lp rfl (p_neq rfl rfl) ?_
                                  refine lg true rfl rfl rfl ?_
                                  refine lp rfl (p_pkf rfl rfl) ?_
                                  refine lg false rfl rfl rfl ?_
                                  refine lp rfl (p_pkt rfl rfl) ?_
                                  refine lp rfl (p_pkf rfl rfl) ?_
                                  refine lp rfl (p_as rfl) ?_
                                  refine lj_nil ?_
                                  exact cnk32 _ _ (a0.Other != 0) () (Option.some.inj hm).symm ⟨rfl, rfl, trivial⟩ (fun _ h => h.picks [] rfl)
                              · have hm := ifB_f hb hm
                                refine ls true rfl rfl rfl rfl ?_
                                refine ls true rfl rfl rfl rfl ?_
                                refine ls true rfl rfl rfl rfl ?_
                                refine ls true rfl rfl rfl rfl ?_
                                refine lsu rfl rfl rfl rfl ?_
                                refine lsu rfl rfl rfl rfl ?_
                                refine lsu rfl rfl rfl rfl ?_
                                refine ls true rfl rfl rfl rfl ?_
                                refine lg false rfl rfl rfl ?_
                                refine lp rfl (p_pkf rfl rfl) ?_
                                refine lp rfl (p_pkf rfl rfl) ?_
                                refine lp rfl (p_as rfl) ?_
                                refine lj_nil ?_
                                exact cnk32 _ _ false () (Option.some.inj hm).symm ⟨rfl, rfl, trivial⟩ (fun _ h => h.picks [] rfl)
                · have hm := hk26
                  refine lp rfl (p_fab fl191_2 rfl) ?_
                  refine lp rfl (p_lbs ty4 rfl (j := 0) rfl rfl) ?_
                  refine lp rfl (p_mv rfl) ?_
                  refine lcase (i := 62) y9.cents rfl (fun hb => ?_) (fun hb => ?_)
                  · have hm := ifB_t hb hm
                    refine lg true rfl rfl rfl ?_
                    refine lp rfl (p_fab fl72_6 rfl) ?_
                    refine lg true rfl rfl rfl ?_
                    refine lp rfl (p_lbs ty3 rfl (j := 1) rfl rfl) ?_
                    refine lg true rfl rfl rfl ?_
                    refine lp rfl (p_mv rfl) ?_
                    refine lg true rfl rfl rfl ?_
                    obtain ⟨y27, hy27, hm⟩ := bindS hm
                    refine r_call [] cf26 rfl rfl (ok_kit_Outside a0.Cents u11 1000000000 hy27) rfl rfl .nil (fun _ => rfl) rfl (fun _ => ?_)
                    refine lp rfl (p_pkt rfl rfl) ?_
                    refine lp rfl (p_mv rfl) ?_
                    refine lcase (i := 68) y27 rfl (fun hb => ?_) (fun hb => ?_)
                    · have hm := ifB_t hb hm
                      refine ls false rfl rfl rfl rfl ?_
                      refine ls false rfl rfl rfl rfl ?_
                      refine ls false rfl rfl rfl rfl ?_
                      refine lsu rfl rfl rfl rfl ?_
                      refine lsu rfl rfl rfl rfl ?_
                      refine lsu rfl rfl rfl rfl ?_
                      refine ls false rfl rfl rfl rfl ?_
                      refine lp rfl (p_pkt rfl rfl) ?_
                      refine lp rfl (p_as rfl) ?_
                      refine lj_nil ?_
                      exact cnk26 _ _ true () (Option.some.inj hm).symm ⟨rfl, rfl, rfl, rfl, trivial⟩ (fun _ h => h.picks [0, 0] rfl)
                    · have hm := ifB_f hb hm
                      refine lg false rfl rfl rfl ?_
                      refine lp rfl (p_fab fl191_4 rfl) ?_
                      refine lg false rfl rfl rfl ?_
                      refine lp rfl (p_lbs ty4 rfl (j := 0) rfl rfl) ?_
                      refine lg false rfl rfl rfl ?_
                      refine lp rfl (p_mv rfl) ?_
                      refine lcase (i := 71) y9.undo rfl (fun hb => ?_) (fun hb => ?_)
                      · have hm := ifB_t hb hm
                        refine lg true rfl rfl rfl ?_
                        refine lp rfl (p_fab fl72_9 rfl) ?_
                        refine lg true rfl rfl rfl ?_
                        refine lp rfl (p_lbs ty3 rfl (j := 1) rfl rfl) ?_
                        refine lg true rfl rfl rfl ?_
                        obtain ⟨y28, hy28, hm⟩ := bindS hm
                        refine r_call [] cf26 rfl rfl (ok_kit_Outside a0.Other 1 1000000 hy28) rfl rfl .nil (fun _ => rfl) rfl (fun _ => ?_)
                        refine lg false rfl rfl rfl ?_
                        refine lp rfl (p_pkt rfl rfl) ?_
                        refine lp rfl (p_pkf rfl rfl) ?_
                        refine lp rfl (p_as rfl) ?_
                        refine lj_nil ?_
                        exact cnk26 _ _ y28 () (Option.some.inj hm).symm ⟨rfl, rfl, rfl, rfl, trivial⟩ (fun _ h => h.picks [0, 0] rfl)
                      · have hm := ifB_f hb hm
                        refine ls true rfl rfl rfl rfl ?_
                        refine ls true rfl rfl rfl rfl ?_
                        refine ls true rfl rfl rfl rfl ?_
                        refine lg false rfl rfl rfl ?_
                        refine lp rfl (p_pkf rfl rfl) ?_
                        refine lp rfl (p_pkf rfl rfl) ?_
                        refine lp rfl (p_as rfl) ?_
                        refine lj_nil ?_
                        exact cnk26 _ _ false () (Option.some.inj hm).symm ⟨rfl, rfl, rfl, rfl, trivial⟩ (fun _ h => h.picks [0, 0] rfl)
                  · have hm := ifB_f hb hm
                    refine ls true rfl rfl rfl rfl ?_
                    refine ls true rfl rfl rfl rfl ?_
                    refine ls true rfl rfl rfl rfl ?_
                    refine ls true rfl rfl rfl rfl ?_
                    refine lp rfl (p_pkf rfl rfl) ?_
                    refine lp rfl (p_mv rfl) ?_
                    refine lg false rfl rfl rfl ?_
                    refine lp rfl (p_fab fl191_4 rfl) ?_
                    refine lg false rfl rfl rfl ?_
                    refine lp rfl (p_lbs ty4 rfl (j := 0) rfl rfl) ?_
                    refine lg false rfl rfl rfl ?_
                    refine lp rfl (p_mv rfl) ?_
                    refine lcase (i := 71) y9.undo rfl (fun hb => ?_) (fun hb => ?_)
                    · have hm := ifB_t hb hm
                      refine lg true rfl rfl rfl ?_
                      refine lp rfl (p_fab fl72_9 rfl) ?_
                      refine lg true rfl rfl rfl ?_
                      refine lp rfl (p_lbs ty3 rfl (j := 1) rfl rfl) ?_
                      refine lg true rfl rfl rfl ?_
                      obtain ⟨y29, hy29, hm⟩ := bindS hm
                      refine r_call [] cf26 rfl rfl (ok_kit_Outside a0.Other 1 1000000 hy29) rfl rfl .nil (fun _ => rfl) rfl (fun _ => ?_)
                      refine lg false rfl rfl rfl ?_
                      refine lp rfl (p_pkt rfl rfl) ?_
                      refine lp rfl (p_pkf rfl rfl) ?_
                      refine lp rfl (p_as rfl) ?_
                      refine lj_nil ?_
                      exact cnk26 _ _ y29 () (Option.some.inj hm).symm ⟨rfl, rfl, rfl, rfl, trivial⟩ (fun _ h => h.picks [0, 0] rfl)
                    · have hm := ifB_f hb hm
                      refine ls true rfl rfl rfl rfl ?_
                      refine ls true rfl rfl rfl rfl ?_
                      refine ls true rfl rfl rfl rfl ?_
                      refine lg false rfl rfl rfl ?_
                      refine lp rfl (p_pkf rfl rfl) ?_
                      refine lp rfl (p_pkf rfl rfl) ?_
                      refine lp rfl (p_as rfl) ?_
                      refine lj_nil ?_
                      exact cnk26 _ _ false () (Option.some.inj hm).symm ⟨rfl, rfl, rfl, rfl, trivial⟩ (fun _ h => h.picks [0, 0] rfl)
            · have hm := hk16
              refine lp rfl (p_fab fl191_0 rfl) ?_
              refine lp rfl (p_lbs ty4 rfl (j := 0) rfl rfl) ?_
              refine lp rfl (p_mv rfl) ?_
              refine lcase (i := 33) y9.who rfl (fun hb => ?_) (fun hb => ?_)
              · have hm := ifB_t hb hm
                refine lg true rfl rfl rfl ?_
                refine lp rfl (p_fab fl72_4 rfl) ?_
                refine lg true rfl rfl rfl ?_
                refine lp rfl (p_lbs ty9 rfl (j := 1) rfl rfl) ?_
                refine lg true rfl rfl rfl ?_
                obtain ⟨y17, hy17, hm⟩ := bindS hm
                refine r_call [] cf43 rfl rfl (ok_kit_IsKey a0.Who hy17) rfl rfl .nil (fun _ => rfl) rfl (fun _ => ?_)
                refine lg true rfl rfl rfl ?_
                refine lp rfl (p_not rfl) ?_
                refine lp rfl (p_pkt rfl rfl) ?_
                refine lp rfl (p_mv rfl) ?_
                refine lcase (i := 39) (!y17) rfl (fun hb => ?_) (fun hb => ?_)
                · have hm := ifB_t hb hm
                  refine ls false rfl rfl rfl rfl ?_
                  refine ls false rfl rfl rfl rfl ?_
                  refine ls false rfl rfl rfl rfl ?_
                  refine lsu rfl rfl rfl rfl ?_
                  refine lsu rfl rfl rfl rfl ?_
                  refine lsu rfl rfl rfl rfl ?_
                  refine lsu rfl rfl rfl rfl ?_
                  refine ls false rfl rfl rfl rfl ?_
                  refine lp rfl (p_pkt rfl rfl) ?_
                  refine lp rfl (p_mv rfl) ?_
                  refine ls false rfl rfl rfl rfl ?_
                  refine ls false rfl rfl rfl rfl ?_
                  refine ls false rfl rfl rfl rfl ?_
                  refine lsu rfl rfl rfl rfl ?_
                  refine lsu rfl rfl rfl rfl ?_
                  refine lsu rfl rfl rfl rfl ?_
                  refine lsu rfl rfl rfl rfl ?_
                  refine ls false rfl rfl rfl rfl ?_
                  refine lp rfl (p_pkt rfl rfl) ?_
                  refine lp rfl (p_as rfl) ?_
                  refine lj_nil ?_
                  exact cnk16 _ _ true () (Option.some.inj hm).symm ⟨rfl, rfl, rfl, rfl, rfl, trivial⟩ (fun _ h => h.picks [0, 0] rfl)
                · have hm := ifB_f hb hm
                  refine lg false rfl rfl rfl ?_
                  refine lp rfl (p_fab fl191_1 rfl) ?_
                  refine lg false rfl rfl rfl ?_
                  refine lp rfl (p_lbs ty4 rfl (j := 0) rfl rfl) ?_
                  refine lg false rfl rfl rfl ?_
                  refine lp rfl (p_mv rfl) ?_
                  refine lcase (i := 42) y9.motion rfl (fun hb => ?_) (fun hb => ?_)
                  · have hm := ifB_t hb hm
                    refine lg true rfl rfl rfl ?_
                    refine lp rfl (p_fab fl72_5 rfl) ?_
                    refine lg true rfl rfl rfl ?_
                    refine lp rfl (p_lbs ty9 rfl (j := 1) rfl rfl) ?_
                    refine lg true rfl rfl rfl ?_
                    obtain ⟨y18, hy18, hm⟩ := bindS hm
                    refine r_call [] cf43 rfl rfl (ok_kit_IsKey a0.Motion hy18) rfl rfl .nil (fun _ => rfl) rfl (fun _ => ?_)
                    refine lg true rfl rfl rfl ?_
                    refine lp rfl (p_not rfl) ?_
                    refine lg false rfl rfl rfl ?_
                    refine lp rfl (p_pkt rfl rfl) ?_
                    refine lp rfl (p_pkf rfl rfl) ?_
                    refine lp rfl (p_mv rfl) ?_
                    refine lcase (i := 49) (!y18) rfl (fun hb => ?_) (fun hb => ?_)
                    · have hm := ifB_t hb hm
                      refine ls false rfl rfl rfl rfl ?_
                      refine ls false rfl rfl rfl rfl ?_
                      refine ls false rfl rfl rfl rfl ?_
                      refine lsu rfl rfl rfl rfl ?_
                      refine lsu rfl rfl rfl rfl ?_
                      refine lsu rfl rfl rfl rfl ?_
                      refine lsu rfl rfl rfl rfl ?_
                      refine ls false rfl rfl rfl rfl ?_
                      refine lp rfl (p_pkt rfl rfl) ?_
                      refine lp rfl (p_as rfl) ?_
                      refine lj_nil ?_
                      exact cnk16 _ _ true () (Option.some.inj hm).symm ⟨rfl, rfl, rfl, rfl, rfl, trivial⟩ (fun _ h => h.picks [0, 0] rfl)
                    · have hm := ifB_f hb hm
                      refine lg false rfl rfl rfl ?_
                      refine lp rfl (p_fab fl191_4 rfl) ?_
                      refine lg false rfl rfl rfl ?_
                      refine lp rfl (p_lbs ty4 rfl (j := 0) rfl rfl) ?_
                      refine lg false rfl rfl rfl ?_
                      refine lp rfl (p_mv rfl) ?_
                      refine lcase (i := 52) y9.undo rfl (fun hb => ?_) (fun hb => ?_)
                      · have hm := ifB_t hb hm
                        refine lg true rfl rfl rfl ?_
                        refine lp rfl (p_fab fl72_8 rfl) ?_
                        refine lg true rfl rfl rfl ?_
                        refine lp rfl (p_lbs ty9 rfl (j := 1) rfl rfl) ?_
                        refine lg true rfl rfl rfl ?_
                        obtain ⟨y19, hy19, hm⟩ := bindS hm
                        refine r_call [] cf43 rfl rfl (ok_kit_IsKey a0.Of hy19) rfl rfl .nil (fun _ => rfl) rfl (fun _ => ?_)
                        refine lg true rfl rfl rfl ?_
                        refine lp rfl (p_not rfl) ?_
                        refine lg false rfl rfl rfl ?_
                        refine lp rfl (p_pkt rfl rfl) ?_
                        refine lp rfl (p_pkf rfl rfl) ?_
                        refine lp rfl (p_as rfl) ?_
                        refine lj_nil ?_
                        exact cnk16 _ _ (!y19) () (Option.some.inj hm).symm ⟨rfl, rfl, rfl, rfl, rfl, trivial⟩ (fun _ h => h.picks [0, 0] rfl)
                      · have hm := ifB_f hb hm
                        refine ls true rfl rfl rfl rfl ?_
                        refine ls true rfl rfl rfl rfl ?_
                        refine ls true rfl rfl rfl rfl ?_
                        refine ls true rfl rfl rfl rfl ?_
                        refine lg false rfl rfl rfl ?_
                        refine lp rfl (p_pkf rfl rfl) ?_
                        refine lp rfl (p_pkf rfl rfl) ?_
                        refine lp rfl (p_as rfl) ?_
                        refine lj_nil ?_
                        exact cnk16 _ _ false () (Option.some.inj hm).symm ⟨rfl, rfl, rfl, rfl, rfl, trivial⟩ (fun _ h => h.picks [0, 0] rfl)
                  · have hm := ifB_f hb hm
                    refine ls true rfl rfl rfl rfl ?_
                    refine ls true rfl rfl rfl rfl ?_
                    refine ls true rfl rfl rfl rfl ?_
                    refine ls true rfl rfl rfl rfl ?_
                    refine lg false rfl rfl rfl ?_
                    refine lp rfl (p_pkf rfl rfl) ?_
                    refine lp rfl (p_pkf rfl rfl) ?_
                    refine lp rfl (p_mv rfl) ?_
                    refine lg false rfl rfl rfl ?_
                    refine lp rfl (p_fab fl191_4 rfl) ?_
                    refine lg false rfl rfl rfl ?_
                    refine lp rfl (p_lbs ty4 rfl (j := 0) rfl rfl) ?_
                    refine lg false rfl rfl rfl ?_
                    refine lp rfl (p_mv rfl) ?_
                    refine lcase (i := 52) y9.undo rfl (fun hb => ?_) (fun hb => ?_)
                    · have hm := ifB_t hb hm
                      refine lg true rfl rfl rfl ?_
                      refine lp rfl (p_fab fl72_8 rfl) ?_
                      refine lg true rfl rfl rfl ?_
                      refine lp rfl (p_lbs ty9 rfl (j := 1) rfl rfl) ?_
                      refine lg true rfl rfl rfl ?_
                      obtain ⟨y20, hy20, hm⟩ := bindS hm
                      refine r_call [] cf43 rfl rfl (ok_kit_IsKey a0.Of hy20) rfl rfl .nil (fun _ => rfl) rfl (fun _ => ?_)
                      refine lg true rfl rfl rfl ?_
                      refine lp rfl (p_not rfl) ?_
                      refine lg false rfl rfl rfl ?_
                      refine lp rfl (p_pkt rfl rfl) ?_
                      refine lp rfl (p_pkf rfl rfl) ?_
                      refine lp rfl (p_as rfl) ?_
                      refine lj_nil ?_
                      exact cnk16 _ _ (!y20) () (Option.some.inj hm).symm ⟨rfl, rfl, rfl, rfl, rfl, trivial⟩ (fun _ h => h.picks [0, 0] rfl)
                    · have hm := ifB_f hb hm
                      refine ls true rfl rfl rfl rfl ?_
                      refine ls true rfl rfl rfl rfl ?_
                      refine ls true rfl rfl rfl rfl ?_
                      refine ls true rfl rfl rfl rfl ?_
                      refine lg false rfl rfl rfl ?_
                      refine lp rfl (p_pkf rfl rfl) ?_
                      refine lp rfl (p_pkf rfl rfl) ?_
                      refine lp rfl (p_as rfl) ?_
                      refine lj_nil ?_
                      exact cnk16 _ _ false () (Option.some.inj hm).symm ⟨rfl, rfl, rfl, rfl, rfl, trivial⟩ (fun _ h => h.picks [0, 0] rfl)
              · have hm := ifB_f hb hm
                refine ls true rfl rfl rfl rfl ?_
                refine ls true rfl rfl rfl rfl ?_
                refine ls true rfl rfl rfl rfl ?_
                refine ls true rfl rfl rfl rfl ?_
                refine lp rfl (p_pkf rfl rfl) ?_
                refine lp rfl (p_mv rfl) ?_
                refine lg false rfl rfl rfl ?_
                refine lp rfl (p_fab fl191_1 rfl) ?_
                refine lg false rfl rfl rfl ?_
                refine lp rfl (p_lbs ty4 rfl (j := 0) rfl rfl) ?_
                refine lg false rfl rfl rfl ?_
                refine lp rfl (p_mv rfl) ?_
                refine lcase (i := 42) y9.motion rfl (fun hb => ?_) (fun hb => ?_)
                · have hm := ifB_t hb hm
                  refine lg true rfl rfl rfl ?_
                  refine lp rfl (p_fab fl72_5 rfl) ?_
                  refine lg true rfl rfl rfl ?_
                  refine lp rfl (p_lbs ty9 rfl (j := 1) rfl rfl) ?_
                  refine lg true rfl rfl rfl ?_
                  obtain ⟨y21, hy21, hm⟩ := bindS hm
                  refine r_call [] cf43 rfl rfl (ok_kit_IsKey a0.Motion hy21) rfl rfl .nil (fun _ => rfl) rfl (fun _ => ?_)
                  refine lg true rfl rfl rfl ?_
                  refine lp rfl (p_not rfl) ?_
                  refine lg false rfl rfl rfl ?_
                  refine lp rfl (p_pkt rfl rfl) ?_
                  refine lp rfl (p_pkf rfl rfl) ?_
                  refine lp rfl (p_mv rfl) ?_
                  refine lcase (i := 49) (!y21) rfl (fun hb => ?_) (fun hb => ?_)
                  · have hm := ifB_t hb hm
                    refine ls false rfl rfl rfl rfl ?_
                    refine ls false rfl rfl rfl rfl ?_
                    refine ls false rfl rfl rfl rfl ?_
                    refine lsu rfl rfl rfl rfl ?_
                    refine lsu rfl rfl rfl rfl ?_
                    refine lsu rfl rfl rfl rfl ?_
                    refine lsu rfl rfl rfl rfl ?_
                    refine ls false rfl rfl rfl rfl ?_
                    refine lp rfl (p_pkt rfl rfl) ?_
                    refine lp rfl (p_as rfl) ?_
                    refine lj_nil ?_
                    exact cnk16 _ _ true () (Option.some.inj hm).symm ⟨rfl, rfl, rfl, rfl, rfl, trivial⟩ (fun _ h => h.picks [0, 0] rfl)
                  · have hm := ifB_f hb hm
                    refine lg false rfl rfl rfl ?_
                    refine lp rfl (p_fab fl191_4 rfl) ?_
                    refine lg false rfl rfl rfl ?_
                    refine lp rfl (p_lbs ty4 rfl (j := 0) rfl rfl) ?_
                    refine lg false rfl rfl rfl ?_
                    refine lp rfl (p_mv rfl) ?_
                    refine lcase (i := 52) y9.undo rfl (fun hb => ?_) (fun hb => ?_)
                    · have hm := ifB_t hb hm
                      refine lg true rfl rfl rfl ?_
                      refine lp rfl (p_fab fl72_8 rfl) ?_
                      refine lg true rfl rfl rfl ?_
                      refine lp rfl (p_lbs ty9 rfl (j := 1) rfl rfl) ?_
                      refine lg true rfl rfl rfl ?_
                      obtain ⟨y22, hy22, hm⟩ := bindS hm
                      refine r_call [] cf43 rfl rfl (ok_kit_IsKey a0.Of hy22) rfl rfl .nil (fun _ => rfl) rfl (fun _ => ?_)
                      refine lg true rfl rfl rfl ?_
                      refine lp rfl (p_not rfl) ?_
                      refine lg false rfl rfl rfl ?_
                      refine lp rfl (p_pkt rfl rfl) ?_
                      refine lp rfl (p_pkf rfl rfl) ?_
                      refine lp rfl (p_as rfl) ?_
                      refine lj_nil ?_
                      exact cnk16 _ _ (!y22) () (Option.some.inj hm).symm ⟨rfl, rfl, rfl, rfl, rfl, trivial⟩ (fun _ h => h.picks [0, 0] rfl)
                    · have hm := ifB_f hb hm
                      refine ls true rfl rfl rfl rfl ?_
                      refine ls true rfl rfl rfl rfl ?_
                      refine ls true rfl rfl rfl rfl ?_
                      refine ls true rfl rfl rfl rfl ?_
                      refine lg false rfl rfl rfl ?_
                      refine lp rfl (p_pkf rfl rfl) ?_
                      refine lp rfl (p_pkf rfl rfl) ?_
                      refine lp rfl (p_as rfl) ?_
                      refine lj_nil ?_
                      exact cnk16 _ _ false () (Option.some.inj hm).symm ⟨rfl, rfl, rfl, rfl, rfl, trivial⟩ (fun _ h => h.picks [0, 0] rfl)
                · have hm := ifB_f hb hm
                  refine ls true rfl rfl rfl rfl ?_
                  refine ls true rfl rfl rfl rfl ?_
                  refine ls true rfl rfl rfl rfl ?_
                  refine ls true rfl rfl rfl rfl ?_
                  refine lg false rfl rfl rfl ?_
                  refine lp rfl (p_pkf rfl rfl) ?_
                  refine lp rfl (p_pkf rfl rfl) ?_
                  refine lp rfl (p_mv rfl) ?_
                  refine lg false rfl rfl rfl ?_
                  refine lp rfl (p_fab fl191_4 rfl) ?_
                  refine lg false rfl rfl rfl ?_
                  refine lp rfl (p_lbs ty4 rfl (j := 0) rfl rfl) ?_
                  refine lg false rfl rfl rfl ?_
                  refine lp rfl (p_mv rfl) ?_
                  refine lcase (i := 52) y9.undo rfl (fun hb => ?_) (fun hb => ?_)
                  · have hm := ifB_t hb hm
                    refine lg true rfl rfl rfl ?_
                    refine lp rfl (p_fab fl72_8 rfl) ?_
                    refine lg true rfl rfl rfl ?_
                    refine lp rfl (p_lbs ty9 rfl (j := 1) rfl rfl) ?_
                    refine lg true rfl rfl rfl ?_
                    obtain ⟨y23, hy23, hm⟩ := bindS hm
                    refine r_call [] cf43 rfl rfl (ok_kit_IsKey a0.Of hy23) rfl rfl .nil (fun _ => rfl) rfl (fun _ => ?_)
                    refine lg true rfl rfl rfl ?_
                    refine lp rfl (p_not rfl) ?_
                    refine lg false rfl rfl rfl ?_
                    refine lp rfl (p_pkt rfl rfl) ?_
                    refine lp rfl (p_pkf rfl rfl) ?_
                    refine lp rfl (p_as rfl) ?_
                    refine lj_nil ?_
                    exact cnk16 _ _ (!y23) () (Option.some.inj hm).symm ⟨rfl, rfl, rfl, rfl, rfl, trivial⟩ (fun _ h => h.picks [0, 0] rfl)
                  · have hm := ifB_f hb hm
                    refine ls true rfl rfl rfl rfl ?_
                    refine ls true rfl rfl rfl rfl ?_
                    refine ls true rfl rfl rfl rfl ?_
                    refine ls true rfl rfl rfl rfl ?_
                    refine lg false rfl rfl rfl ?_
                    refine lp rfl (p_pkf rfl rfl) ?_
                    refine lp rfl (p_pkf rfl rfl) ?_
                    refine lp rfl (p_as rfl) ?_
                    refine lj_nil ?_
                    exact cnk16 _ _ false () (Option.some.inj hm).symm ⟨rfl, rfl, rfl, rfl, rfl, trivial⟩ (fun _ h => h.picks [0, 0] rfl)
          · have hm := hk13
            refine cj_if (b := a0.Kind == 3) rfl (fun hb => ?_) (fun hb => ?_)
            · have hm := ifB_t hb hm
              refine cj_reg ?_
              refine lp rfl (p_as rfl) ?_
              refine lj_nil ?_
              exact cnk13 _ _ 1 () (Option.some.inj hm).symm ⟨rfl, rfl, rfl, rfl, trivial⟩ (fun _ h => h.picks [0, 0] rfl)
            · have hm := ifB_f hb hm
              refine cj_skip ?_
              exact cnk13 _ _ 0 () (Option.some.inj hm).symm ⟨rfl, rfl, rfl, rfl, trivial⟩ (fun _ h => h.picks [0, 0] rfl)
    · have hm := hk5
      refine lp rfl (p_fab fl72_1 rfl) ?_
      refine lp rfl (p_lbs ty3 rfl (j := 0) rfl rfl) ?_
      obtain ⟨y6, hy6, hm⟩ := bindS hm
      refine r_call [] cf26 rfl rfl (ok_kit_Outside a0.No 1 1000000 hy6) rfl rfl .nil (fun _ => rfl) rfl (fun _ => ?_)
      refine lp rfl (p_mv rfl) ?_
      refine lcase (i := 14) y6 rfl (fun hb => ?_) (fun hb => ?_)
      · have hm := ifB_t hb hm
        refine ls false rfl rfl rfl rfl ?_
        refine ls false rfl rfl rfl rfl ?_
        refine ls false rfl rfl rfl rfl ?_
        refine ls false rfl rfl rfl rfl ?_
        refine lp rfl (p_pkt rfl rfl) ?_
        refine lp rfl (p_as rfl) ?_
        refine lj_nil ?_
        exact cnk5 _ _ true () (Option.some.inj hm).symm ⟨rfl, rfl, rfl, trivial⟩ (fun _ h => h.picks [0] rfl)
      · have hm := ifB_f hb hm
        refine lg false rfl rfl rfl ?_
        refine lp rfl (p_fab fl72_2 rfl) ?_
        refine lg false rfl rfl rfl ?_
        refine lp rfl (p_lbs ty3 rfl (j := 0) rfl rfl) ?_
        refine lg false rfl rfl rfl ?_
        obtain ⟨y7, hy7, hm⟩ := bindS hm
        refine r_call [] cf23 rfl rfl (ok_kit_IsMoment a0.At hy7) rfl rfl .nil (fun _ => rfl) rfl (fun _ => ?_)
        refine lg false rfl rfl rfl ?_
        refine lp rfl (p_not rfl) ?_
        refine lp rfl (p_pkf rfl rfl) ?_
        refine lp rfl (p_as rfl) ?_
        refine lj_nil ?_
        exact cnk5 _ _ (!y7) () (Option.some.inj hm).symm ⟨rfl, rfl, rfl, trivial⟩ (fun _ h => h.picks [0] rfl)
theorem ok_club_compare (a0 : TAct) (a1 : TAct) {r : Int} (hm : m_club_compare a0 a1 = some r) :
    Ctr Tryz.prog 107 [.agg (R72.enc a0).toArray, .agg (R72.enc a1).toArray].toArray ([] : List Ent) [] (X := Unit) (fun _ => .int .i64 r) (fun _ => []) := by
  unfold m_club_compare at hm
  refine ctr_mk (vs := [(0, .agg (R72.enc a0).toArray), (1, .agg (R72.enc a1).toArray)]) Tryz.func107 rfl Tryz.ntmps107 rfl ⟨rfl, rfl, trivial⟩ (fun w0 A => ?_)
  refine cj_seq ?_
  refine cj_reg ?_
  refine r_bx (cs := [.string a0.Site, .int .i64 a0.No, .int .i64 a0.At, .int .i64 a0.Kind, .string a0.Who, .string a0.Motion, .int .i64 a0.Cents, .bool a0.Yes, .string a0.Of, .int .i64 a0.Other]) rfl rfl rfl (fun b1 => ?_)
  refine r_bx (cs := [.string a1.Site, .int .i64 a1.No, .int .i64 a1.At, .int .i64 a1.Kind, .string a1.Who, .string a1.Motion, .int .i64 a1.Cents, .bool a1.Yes, .string a1.Of, .int .i64 a1.Other]) rfl rfl rfl (fun b2 => ?_)
  refine lp rfl (p_as rfl) ?_
  refine lj_seq ?_
  refine cj_seq ?_
  obtain ⟨y3, hy3, hm⟩ := bindS hm
  obtain ⟨y4, hy4, hm⟩ := bindS hm
  obtain ⟨y5, hy5, hm⟩ := bindS hm
  obtain ⟨y7, hy7, hm⟩ := bindS hm
  refine cj_anyT [0, 1, 2, 3, 5, 6, 7, 8, 10, 11, 12, 13, 17] [] (Sat w0 (keys ([] : List Ent)) A [.box b2 72 [.string a1.Site, .int .i64 a1.No, .int .i64 a1.At, .int .i64 a1.Kind, .string a1.Who, .string a1.Motion, .int .i64 a1.Cents, .bool a1.Yes, .string a1.Of, .int .i64 a1.Other], .box b1 72 [.string a0.Site, .int .i64 a0.No, .int .i64 a0.At, .int .i64 a0.Kind, .string a0.Who, .string a0.Motion, .int .i64 a0.Cents, .bool a0.Yes, .string a0.Of, .int .i64 a0.Other]]) (Sat w0 (keys ([] : List Ent)) A [.box b2 72 [.string a1.Site, .int .i64 a1.No, .int .i64 a1.At, .int .i64 a1.Kind, .string a1.Who, .string a1.Motion, .int .i64 a1.Cents, .bool a1.Yes, .string a1.Of, .int .i64 a1.Other], .box b1 72 [.string a0.Site, .int .i64 a0.No, .int .i64 a0.At, .int .i64 a0.Kind, .string a0.Who, .string a0.Motion, .int .i64 a0.Cents, .bool a0.Yes, .string a0.Of, .int .i64 a0.Other]]) (by kernel_rfl) ?_
  refine at_take2 0 rfl (by kernel_rfl) (by kernel_rfl) (by kernel_rfl) (fun _ h => h.picks [0, 0] rfl) rfl rfl (p_fab fl72_2 rfl) (fun _ h => h.picks [0, 0] rfl) ?_
  refine at_take2 1 rfl (by kernel_rfl) (by kernel_rfl) (by kernel_rfl) (fun _ h => h.picks [0, 0] rfl) rfl rfl (p_lbs ty3 rfl (j := 1) rfl rfl) (fun _ h => h.picks [0, 0] rfl) ?_
  refine at_take2 2 rfl (by kernel_rfl) (by kernel_rfl) (by kernel_rfl) (fun _ h => h.picks [0, 0] rfl) rfl rfl (p_fab fl72_2 rfl) (fun _ h => h.picks [0, 0] rfl) ?_
  refine at_take2 3 rfl (by kernel_rfl) (by kernel_rfl) (by kernel_rfl) (fun _ h => h.picks [0, 0] rfl) rfl rfl (p_lbs ty3 rfl (j := 0) rfl rfl) (fun _ h => h.picks [0, 0] rfl) ?_
  refine at_take2 5 rfl (by kernel_rfl) (by kernel_rfl) (by kernel_rfl) (fun _ h => h.picks [0, 0] rfl) rfl rfl (p_fab fl72_0 rfl) (fun _ h => h.picks [0, 0] rfl) ?_
  refine at_take2 6 rfl (by kernel_rfl) (by kernel_rfl) (by kernel_rfl) (fun _ h => h.picks [0, 0] rfl) rfl rfl (p_lbs ty9 rfl (j := 1) rfl rfl) (fun _ h => h.picks [0, 0] rfl) ?_
  refine at_take2 7 rfl (by kernel_rfl) (by kernel_rfl) (by kernel_rfl) (fun _ h => h.picks [0, 0] rfl) rfl rfl (p_fab fl72_0 rfl) (fun _ h => h.picks [0, 0] rfl) ?_
  refine at_take2 8 rfl (by kernel_rfl) (by kernel_rfl) (by kernel_rfl) (fun _ h => h.picks [0, 0] rfl) rfl rfl (p_lbs ty9 rfl (j := 0) rfl rfl) (fun _ h => h.picks [0, 0] rfl) ?_
  refine at_take2 10 rfl (by kernel_rfl) (by kernel_rfl) (by kernel_rfl) (fun _ h => h.picks [0, 0] rfl) rfl rfl (p_fab fl72_1 rfl) (fun _ h => h.picks [0, 0] rfl) ?_
  refine at_take2 11 rfl (by kernel_rfl) (by kernel_rfl) (by kernel_rfl) (fun _ h => h.picks [0, 0] rfl) rfl rfl (p_lbs ty3 rfl (j := 1) rfl rfl) (fun _ h => h.picks [0, 0] rfl) ?_
  refine at_take2 12 rfl (by kernel_rfl) (by kernel_rfl) (by kernel_rfl) (fun _ h => h.picks [0, 0] rfl) rfl rfl (p_fab fl72_1 rfl) (fun _ h => h.picks [0, 0] rfl) ?_
  refine at_take2 13 rfl (by kernel_rfl) (by kernel_rfl) (by kernel_rfl) (fun _ h => h.picks [0, 0] rfl) rfl rfl (p_lbs ty3 rfl (j := 0) rfl rfl) (fun _ h => h.picks [0, 0] rfl) ?_
  refine at_each (rs := [4]) (by kernel_rfl) (by decide) ?_
  refine (.cons rfl (fun I cnI => ?_) .nil)
  · refine r_call [] cf69 rfl rfl (ok_cmp_Compare_int a0.At a1.At hy3) rfl rfl .nil (fun _ => rfl) rfl (fun _ => ?_)
    refine lj_nil ?_
    refine cnI _ _ (sof1 rfl rfl (fun _ h => h.picks [0, 0] rfl)) ?_
    refine at_each (rs := [9]) (by kernel_rfl) (by decide) ?_
    refine (.cons rfl (fun I cnI => ?_) .nil)
    · refine r_call [] cf70 rfl rfl (ok_strings_Compare a0.Site a1.Site hy4) rfl rfl .nil (fun _ => rfl) rfl (fun _ => ?_)
      refine lj_nil ?_
      refine cnI _ _ (sof1 rfl rfl (fun _ h => h.picks [0, 0] rfl)) ?_
      refine at_each (rs := [14]) (by kernel_rfl) (by decide) ?_
      refine (.cons rfl (fun I cnI => ?_) .nil)
      · refine r_call [] cf69 rfl rfl (ok_cmp_Compare_int a0.No a1.No hy5) rfl rfl .nil (fun _ => rfl) rfl (fun _ => ?_)
        refine lj_nil ?_
        refine cnI _ _ (sof1 rfl rfl (fun _ h => h.picks [0, 0] rfl)) ?_
        refine at_each (rs := [15]) (by kernel_rfl) (by decide) ?_
        refine (.cons rfl (fun I cnI => ?_) .nil)
        · refine r_bs R3 [y3, y4, y5] rfl rfl rfl (fun _ => by kernel_rfl) rfl (fun s8 => ?_)
          refine lj_nil ?_
          refine cnI _ _ (sof1 rfl rfl (fun _ h => h.picks [1, 1] rfl)) ?_
          refine at_each (rs := [16]) (by kernel_rfl) (by decide) ?_
          refine (.cons rfl (fun I cnI => ?_) .nil)
          · refine r_call [] cf68 rfl rfl (ok_cmp_Or_int s8 [y3, y4, y5] hy7) rfl rfl (.cons (.row 0 rfl) .nil) (fun _ => rfl) rfl (fun _ => ?_)
            refine lj_nil ?_
            refine cnI _ _ (sof1 rfl rfl (fun _ h => h.picks [1, 1] rfl)) ?_
            refine at_take2 17 rfl (by kernel_rfl) (by kernel_rfl) (by kernel_rfl) (fun _ h => h.picks [0, 0] rfl) rfl rfl (p_as rfl) (fun _ h => h.picks [1, 1] rfl) ?_
            refine at_done (by kernel_rfl) ?_
            refine nj_seq ?_
            obtain rfl := Option.some.inj hm
            exact cj_rt () [] Tryz.results107 (.tmp rfl .nil) rfl rfl
theorem ok_club_CheckActs (s0_ : SV) (a0 : (List TAct)) {r : Int} (hm : m_club_CheckActs a0 = some r) :
    Ctr Tryz.prog 75 [s0_.v].toArray ([] : List Ent) [RdS R72 (SV.v s0_) a0] (X := Unit) (fun _ => .int .i64 r) (fun _ => []) := by
  unfold m_club_CheckActs at hm
  refine ctr_mk (vs := [(0, s0_.v)]) Tryz.func75 rfl Tryz.ntmps75 rfl ⟨rfl, trivial⟩ (fun w0 A => ?_)
  refine cj_seq ?_
  refine cj_reg ?_
  refine lp rfl (p_as rfl) ?_
  refine lj_seq ?_
  refine cj_seq ?_
  refine cj_seq ?_
  refine cj_reg ?_
  refine lp rfl (p_mv rfl) ?_
  refine lp rfl (p_len Tryz.underlying73 rfl (.ro 0 rfl)) ?_
  refine lp rfl (p_gtr rfl rfl) ?_
  refine lj_seq ?_
  refine cj_if (b := decide ((a0.length : Int) > 2000)) rfl (fun hb => ?_) (fun hb => ?_)
  · have hm := ifB_t hb hm
    refine cj_seq ?_
    refine cj_reg ?_
    refine lp rfl (p_as rfl) ?_
    refine lj_seq ?_
    obtain rfl := Option.some.inj hm
    exact cj_rt () [] Tryz.results75 (.tmp rfl .nil) rfl rfl
  · have hm := ifB_f hb hm
    refine cj_skip ?_
    refine nj_seq ?_
    refine cj_seq ?_
    refine cj_seq ?_
    refine cj_reg ?_
    refine lp rfl (p_mv rfl) ?_
    refine lp rfl (p_len Tryz.underlying73 rfl (.ro 0 rfl)) ?_
    refine lp rfl (p_mv rfl) ?_
    refine lj_seq ?_
    obtain ⟨f7, hf7, hm⟩ := bindS hm
    refine cj_range (γ := Unit) (m := (a0.length : Int)) hf7 () (fun u4 g5 => [(0, s0_.v), (2, .int .i64 0), (13, s0_.v)]) (fun u4 g5 => Sat w0 (keys ([] : List Ent)) A [.ro (RdS R72 (SV.v s0_) a0)]) ⟨rfl, rfl, rfl, rfl, rfl, trivial⟩ (fun _ h => h.picks [0] rfl) (nat_lt _) (fun _ h => (FactAt.get (F := RdS R72 (SV.v s0_) a0) (.ro 0 rfl) h).1) (fun _ _ => ⟨rfl, rfl, rfl, rfl⟩) ⟨rfl, rfl, rfl, rfl, rfl⟩ rfl rfl rfl (fun u4 g5 e => ?_) (fun aftk6 i1 x2 u4 g5 k6 hx3 hs J hJk6 hBk6 hX I cnk6 => ?_)
    · have hm := Flow.fin_b e hm
      refine nj_seq ?_
      refine cj_seq ?_
      refine cj_reg ?_
      refine r_mkmap kv169 vv4 rfl (fun b12 => ?_)
      refine lp rfl (p_as rfl) ?_
      refine lj_seq ?_
      refine cj_seq ?_
      refine cj_seq ?_
      refine cj_reg ?_
      refine lp rfl (p_mv rfl) ?_
      refine lp rfl (p_len Tryz.underlying73 rfl (.ro 1 rfl)) ?_
      refine lp rfl (p_mv rfl) ?_
      refine lj_seq ?_
      obtain ⟨f19, hf19, hm⟩ := bindS hm
      refine cj_range (γ := (Array MapEntry × Nat)) (m := (a0.length : Int)) hf19 (#[], 0) (fun u16 g17 => [(2, .int .i64 0), (6, .map (some b12)), (39, s0_.v)]) (fun u16 g17 => Sat w0 (keys ([] : List Ent)) A [.obj (mapO kv169 b12 (mpV vv4 u16) g17.1 g17.2), .ro (RdS R72 (SV.v s0_) a0)]) ⟨rfl, rfl, rfl, rfl, rfl, trivial⟩ (fun _ h => h.picks [0, 0] rfl) (nat_lt _) (fun _ h => (FactAt.get (F := RdS R72 (SV.v s0_) a0) (.ro 1 rfl) h).1) (fun _ _ => ⟨rfl, rfl, rfl, rfl⟩) ⟨rfl, rfl, rfl, rfl, rfl⟩ rfl rfl rfl (fun u16 g17 e => ?_) (fun aftk18 i13 x14 u16 g17 k18 hx15 hs J hJk18 hBk18 hX I cnk18 => ?_)
      · have hm := Flow.fin_b e hm
        refine nj_seq ?_
        refine cj_seq ?_
        refine cj_reg ?_
        refine lp rfl (p_as rfl) ?_
        refine lj_seq ?_
        obtain rfl := Option.some.inj hm
        exact cj_rt () [] Tryz.results75 (.tmp rfl .nil) rfl rfl
      · have hRk18 : ∀ t, k18 = .ret t → some t = some r := fun t e => by rw [hX t e] at hm; exact hm
        have hm := hs
        refine cj_seq ?_
        refine cj_reg ?_
        refine lp rfl (p_idx Tryz.underlying73 ty72 rfl rfl (.ro 1 rfl) (getI_nat.trans hx15)) ?_
        refine lp rfl (p_lea ty72 rfl (.ro 1 rfl) hx15) ?_
        refine r_al ty72 rfl (fun b20 => ?_)
        refine r_sb (vs := [.string x14.Site, .int .i64 x14.No, .int .i64 x14.At, .int .i64 x14.Kind, .string x14.Who, .string x14.Motion, .int .i64 x14.Cents, .bool x14.Yes, .string x14.Of, .int .i64 x14.Other]) (j := 0) ty72 rfl rfl rfl rfl rfl rfl rfl ?_
        refine lj_seq ?_
        refine cj_seq ?_
        refine cj_reg ?_
        refine lp rfl (p_fab fl72_0 rfl) ?_
        refine lp rfl (p_lbs ty9 rfl (j := 0) rfl rfl) ?_
        refine lp rfl (p_fab fl72_1 rfl) ?_
        refine lp rfl (p_lbs ty3 rfl (j := 0) rfl rfl) ?_
        refine lp rfl (p_bld [.string x14.Site, .int .i64 x14.No] rfl (fun _ => by kernel_rfl)) ?_
        refine r_al ty169 rfl (fun b21 => ?_)
        refine r_sb (vs := [.string x14.Site, .int .i64 x14.No]) (j := 0) ty169 rfl rfl rfl rfl rfl rfl rfl ?_
        refine lj_seq ?_
        refine cj_seq ?_
        refine cj_seq ?_
        refine cj_reg ?_
        refine lp rfl (p_mv rfl) ?_
        refine lp rfl (p_lbw ty169 rfl (j := 0) rfl rfl) ?_
        refine lp rfl (p_lkm (vv := vv4) (k := (Tclub_own.mk x14.Site x14.No)) (z := false) Tryz.underlying167 (keyF169) (fun _ => by kernel_rfl) (.map 2 rfl) rfl rfl) ?_
        refine lj_seq ?_
        refine cj_if (b := ((lkM u16 (Tclub_own.mk x14.Site x14.No)).getD false)) rfl (fun hb => ?_) (fun hb => ?_)
        · have hm := ifB_t hb hm
          refine cj_seq ?_
          refine cj_reg ?_
          refine lp rfl (p_as rfl) ?_
          refine lj_seq ?_
          have hm := hRk18 _ (Option.some.inj hm).symm
          obtain rfl := Option.some.inj hm
          exact cj_rt () [] Tryz.results75 (.tmp rfl .nil) rfl rfl
        · have hm := ifB_f hb hm
          refine cj_skip ?_
          refine nj_seq ?_
          refine cj_reg ?_
          refine lp rfl (p_mv rfl) ?_
          refine lp rfl (p_lbw ty169 rfl (j := 0) rfl rfl) ?_
          refine r_mpu (j := 2) (vv := vv4) (k := (Tclub_own.mk x14.Site x14.No)) (v := true) Tryz.underlying167 keyF169 rfl rfl rfl rfl (fun es22 cl23 => ?_)
          refine lj_nil ?_
          refine nj_blk ?_
          exact cnk18 _ _ (putM u16 (Tclub_own.mk x14.Site x14.No) true) (es22, cl23) (hJk18 _ (Option.some.inj hm).symm) ⟨rfl, rfl, rfl, rfl, rfl, trivial⟩ (fun _ h => h.picks [2, 2] rfl)
    · have hRk6 : ∀ t, k6 = .ret t → some t = some r := fun t e => by rw [hX t e] at hm; exact hm
      have hm := hs
      refine cj_seq ?_
      refine cj_reg ?_
      refine lp rfl (p_mv rfl) ?_
      refine lp rfl (p_idx Tryz.underlying73 ty72 rfl rfl (.ro 0 rfl) (getI_nat.trans hx3)) ?_
      refine lp rfl (p_lea ty72 rfl (.ro 0 rfl) hx3) ?_
      refine r_al ty72 rfl (fun b8 => ?_)
      refine lp rfl (p_as rfl) ?_
      refine r_sb (vs := [.string x2.Site, .int .i64 x2.No, .int .i64 x2.At, .int .i64 x2.Kind, .string x2.Who, .string x2.Motion, .int .i64 x2.Cents, .bool x2.Yes, .string x2.Of, .int .i64 x2.Other]) (j := 0) ty72 rfl rfl rfl rfl rfl rfl rfl ?_
      refine lj_seq ?_
      refine cj_seq ?_
      refine cj_seq ?_
      refine cj_reg ?_
      refine lp rfl (p_lbw ty72 rfl (j := 0) rfl rfl) ?_
      obtain ⟨y9, hy9, hm⟩ := bindS hm
      refine r_call [] cf106 rfl rfl (ok_club_formed x2 hy9) rfl rfl .nil (fun _ => rfl) rfl (fun _ => ?_)
      refine lp rfl (p_as rfl) ?_
      refine lj_seq ?_
      refine cj_seq ?_
      refine cj_reg ?_
      refine lp rfl (p_mv rfl) ?_
      refine lp rfl (p_neq rfl rfl) ?_
      refine lj_seq ?_
      refine cj_if (b := y9 != 0) rfl (fun hb => ?_) (fun hb => ?_)
      · have hm := ifB_t hb hm
        refine cj_seq ?_
        refine cj_reg ?_
        refine lp rfl (p_mv rfl) ?_
        refine lp rfl (p_as rfl) ?_
        refine lj_seq ?_
        have hm := hRk6 _ (Option.some.inj hm).symm
        obtain rfl := Option.some.inj hm
        exact cj_rt () [] Tryz.results75 (.tmp rfl .nil) rfl rfl
      · have hm := ifB_f hb hm
        refine cj_skip ?_
        refine nj_seq ?_
        refine cj_seq ?_
        refine cj_quiet (by kernel_rfl) (by kernel_rfl) ?_
        refine q_p rfl (p_mv rfl) ?_
        refine q_p rfl (p_gtr rfl rfl) ?_
        refine q_p rfl (p_mv rfl) ?_
        refine q_case (i := 27) (decide ((i1 : Int) > 0)) rfl (fun hb => ?_) (fun hb => ?_)
        · have hm := ifB_t hb hm
          refine q_g true rfl rfl rfl ?_
          refine q_p rfl (p_mv rfl) ?_
          refine q_g true rfl rfl rfl ?_
          refine q_p rfl (p_mv rfl) ?_
          refine q_g true rfl rfl rfl ?_
          refine q_p rfl (p_sub rfl rfl) ?_
          refine q_g true rfl rfl rfl ?_
          obtain ⟨e10, he10, hm⟩ := bindS hm
          refine q_p rfl (p_idx Tryz.underlying73 ty72 rfl rfl (.ro 1 rfl) he10) ?_
          refine q_g true rfl rfl rfl ?_
          refine q_p rfl (p_lea ty72 rfl (.ro 1 rfl) (getI_spec he10).2) ?_
          refine q_g true rfl rfl rfl ?_
          refine q_p rfl (p_lbw ty72 rfl (j := 0) rfl rfl) ?_
          refine q_g true rfl rfl rfl ?_
          obtain ⟨y11, hy11, hm⟩ := bindS hm
          refine q_call (.int .i64 y11) cf107 rfl rfl (ok_club_compare e10 x2 hy11) .nil (fun _ => rfl) (fun _ => rfl) rfl ?_
          refine q_g true rfl rfl rfl ?_
          refine q_p rfl (p_geq rfl rfl) ?_
          refine q_p rfl (p_pkt rfl rfl) ?_
          refine q_nil ?_
          refine nj_seq ?_
          refine cj_if (b := decide (y11 ≥ 0)) rfl (fun hb => ?_) (fun hb => ?_)
          · have hm := ifB_t hb hm
            refine cj_seq ?_
            refine cj_reg ?_
            refine lp rfl (p_as rfl) ?_
            refine lj_seq ?_
            have hm := hRk6 _ (Option.some.inj hm).symm
            obtain rfl := Option.some.inj hm
            exact cj_rt () [] Tryz.results75 (.tmp rfl .nil) rfl rfl
          · have hm := ifB_f hb hm
            refine cj_skip ?_
            refine nj_blk ?_
            exact cnk6 _ _ () () (hJk6 _ (Option.some.inj hm).symm) ⟨rfl, rfl, rfl, rfl, rfl, trivial⟩ (fun _ h => h.picks [1] rfl)
        · have hm := ifB_f hb hm
          refine q_s true rfl rfl rfl rfl ?_
          refine q_s true rfl rfl rfl rfl ?_
          refine q_s true rfl rfl rfl rfl ?_
          refine q_s true rfl rfl rfl rfl ?_
          refine q_s true rfl rfl rfl rfl ?_
          refine q_s true rfl rfl rfl rfl ?_
          refine q_s true rfl rfl rfl rfl ?_
          refine q_s true rfl rfl rfl rfl ?_
          refine q_p rfl (p_pkf rfl rfl) ?_
          refine q_nil ?_
          refine nj_seq ?_
          refine cj_if_f rfl ?_
          refine cj_skip ?_
          refine nj_blk ?_
          exact cnk6 _ _ () () (hJk6 _ (Option.some.inj hm).symm) ⟨rfl, rfl, rfl, rfl, rfl, trivial⟩ (fun _ h => h.picks [1] rfl)
theorem ok_club_askedFault (s0_ : SV) (a0 : (List TAct)) (a1 : Int) {r : Int} (hm : m_club_askedFault a0 a1 = some r) :
    Ctr Tryz.prog 59 [s0_.v, .int .i64 a1].toArray ([] : List Ent) [RdS R72 (SV.v s0_) a0] (X := Unit) (fun _ => .int .i64 r) (fun _ => []) := by
  unfold m_club_askedFault at hm
  refine ctr_mk (vs := [(0, s0_.v), (1, .int .i64 a1)]) Tryz.func59 rfl Tryz.ntmps59 rfl ⟨rfl, rfl, trivial⟩ (fun w0 A => ?_)
  refine cj_seq ?_
  refine cj_reg ?_
  refine lp rfl (p_as rfl) ?_
  refine lj_seq ?_
  refine cj_seq ?_
  refine cj_seq ?_
  refine cj_reg ?_
  refine lp rfl (p_mv rfl) ?_
  obtain ⟨y1, hy1, hm⟩ := bindS hm
  refine r_call [] cf75 rfl rfl (ok_club_CheckActs s0_ a0 hy1) rfl rfl (.cons (.ro 0 rfl) .nil) (fun _ => rfl) rfl (fun _ => ?_)
  refine lp rfl (p_as rfl) ?_
  refine lj_seq ?_
  refine cj_seq ?_
  refine cj_reg ?_
  refine lp rfl (p_mv rfl) ?_
  refine lp rfl (p_neq rfl rfl) ?_
  refine lj_seq ?_
  refine cj_if (b := y1 != 0) rfl (fun hb => ?_) (fun hb => ?_)
  · have hm := ifB_t hb hm
    refine cj_seq ?_
    refine cj_reg ?_
    refine lp rfl (p_mv rfl) ?_
    refine lp rfl (p_as rfl) ?_
    refine lj_seq ?_
    obtain rfl := Option.some.inj hm
    exact cj_rt () [] Tryz.results59 (.tmp rfl .nil) rfl rfl
  · have hm := ifB_f hb hm
    refine cj_skip ?_
    refine nj_seq ?_
    refine cj_seq ?_
    refine cj_seq ?_
    refine cj_reg ?_
    refine lp rfl (p_mv rfl) ?_
    obtain ⟨y2, hy2, hm⟩ := bindS hm
    refine r_call [] cf23 rfl rfl (ok_kit_IsMoment a1 hy2) rfl rfl .nil (fun _ => rfl) rfl (fun _ => ?_)
    refine lp rfl (p_not rfl) ?_
    refine lj_seq ?_
    refine cj_if (b := !y2) rfl (fun hb => ?_) (fun hb => ?_)
    · have hm := ifB_t hb hm
      refine cj_seq ?_
      refine cj_reg ?_
      refine lp rfl (p_as rfl) ?_
      refine lj_seq ?_
      obtain rfl := Option.some.inj hm
      exact cj_rt () [] Tryz.results59 (.tmp rfl .nil) rfl rfl
    · have hm := ifB_f hb hm
      refine cj_skip ?_
      refine nj_seq ?_
      refine cj_seq ?_
      refine cj_reg ?_
      refine lp rfl (p_as rfl) ?_
      refine lj_seq ?_
      obtain rfl := Option.some.inj hm
      exact cj_rt () [] Tryz.results59 (.tmp rfl .nil) rfl rfl
theorem ok_slices_Backward_api_Act_api_Act (s : SV) : Ctr Tryz.prog 108 [s.v].toArray ([] : List Ent) [] (X := Nat) (fun b => .func (.func 129) #[] [.pointer (some ⟨b, 0, none⟩)].toArray) (fun b => [.box b 73 [s.v]]) := by
  refine ctr_mk (vs := [(0, s.v)]) Tryz.func108 rfl Tryz.ntmps108 rfl ⟨rfl, trivial⟩ (fun w0 A => ?_)
  refine cj_seq ?_
  refine cj_reg ?_
  refine r_bx (cs := [s.v]) rfl rfl rfl (fun b => ?_)
  refine lp rfl (p_as rfl) ?_
  refine lj_seq ?_
  refine cj_seq ?_
  refine cj_reg ?_
  refine lp rfl (p_fn (cv := [.pointer (some ⟨b, 0, none⟩)]) rfl) ?_
  refine lp rfl (p_as rfl) ?_
  refine lj_seq ?_
  exact cj_rt b [0] Tryz.results108 (.tmp rfl .nil) rfl rfl
theorem ok_slices_Reverse_int_int (s0_ : SV) (a0 : (List Int)) {r : (List Int)} (hm : m_slices_Reverse_int_int a0 = some r) :
    Ctr Tryz.prog 109 [s0_.v].toArray [.row R3 (SV.v s0_) a0] [] (X := Unit) (fun _ => .tuple [].toArray) (fun _ => [.row R3 (SV.v s0_) r]) := by
  unfold m_slices_Reverse_int_int at hm
  refine ctr_mk (vs := [(0, s0_.v)]) Tryz.func109 rfl Tryz.ntmps109 rfl ⟨rfl, trivial⟩ (fun w0 A => ?_)
  refine cj_seq ?_
  refine cj_reg ?_
  refine lp rfl (p_mv rfl) ?_
  refine lp rfl (p_len Tryz.underlying22 rfl (.row 0 rfl)) ?_
  refine lp rfl (p_sub rfl rfl) ?_
  refine lp rfl (p_as rfl) ?_
  refine lp rfl (p_as rfl) ?_
  refine lj_seq ?_
  obtain ⟨f4, hf4, hm⟩ := bindS hm
  refine cj_whileA (γ := Unit) hf4 () (fun u1 g2 => [(0, s0_.v), (2, .int .i64 u1.1), (3, .int .i64 u1.2.1)]) (fun u1 g2 => Sat w0 (keys [.row R3 (SV.v s0_) a0]) A [.row R3 (SV.v s0_) u1.2.2]) ⟨rfl, rfl, rfl, trivial⟩ (fun _ h => h.picks [0] rfl) (fun u1 g2 e => ?_) (fun aftk3 u1 g2 k3 hs J hJk3 hBk3 hX I cnk3 => ?_)
  · have hm := Flow.fin_b e hm
    obtain rfl := Option.some.inj hm
    exact nj_rt () [0] Tryz.results109 .nil rfl rfl
  · have hRk3 : ∀ t, k3 = .ret t → some t = some r := fun t e => by rw [hX t e] at hm; exact hm
    have hm := hs
    refine cj_seq ?_
    refine cj_seq ?_
    refine cj_reg ?_
    refine lp rfl (p_mv rfl) ?_
    refine lp rfl (p_mv rfl) ?_
    refine lp rfl (p_lss rfl rfl) ?_
    refine lj_seq ?_
    refine cj_if (b := decide (u1.1 < u1.2.1)) rfl (fun hb => ?_) (fun hb => ?_)
    · have hm := ifB_t hb hm
      refine cj_skip ?_
      refine nj_seq ?_
      refine cj_seq ?_
      refine cj_blk ?_
      refine cj_pure (F := RdS R3 (SV.v s0_) u1.2.2) (.row 0 rfl) (fun _ h => h.pures) (fun hq9 => ?_)
      obtain ⟨e5, he5, hm⟩ := bindS hm
      obtain ⟨e6, he6, hm⟩ := bindS hm
      obtain ⟨e7, he7, hm⟩ := bindS hm
      obtain ⟨e8, he8, hm⟩ := bindS hm
      refine cj_anyT [0, 1, 2, 3, 4, 5, 6, 7, 8, 9, 11, 12] [13, 14, 15] (Sat w0 (keys [.row R3 (SV.v s0_) a0]) A [.row R3 (SV.v s0_) u1.2.2]) (Sat w0 (keys [.row R3 (SV.v s0_) a0]) A []) (by kernel_rfl) ?_
      refine at_take2 0 rfl (by kernel_rfl) (by kernel_rfl) (by kernel_rfl) (fun _ h => h.picks [] rfl) rfl rfl (p_mv rfl) (fun _ h => h.picks [] rfl) ?_
      refine at_take2 1 rfl (by kernel_rfl) (by kernel_rfl) (by kernel_rfl) (fun _ h => h.picks [] rfl) rfl rfl (p_mv rfl) (fun _ h => h.picks [] rfl) ?_
      refine at_take2 2 rfl (by kernel_rfl) (by kernel_rfl) (by kernel_rfl) (fun _ h => h.picks [] rfl) rfl rfl (p_mv rfl) (fun _ h => h.picks [] rfl) ?_
      refine at_take2 3 rfl (by kernel_rfl) (by kernel_rfl) (by kernel_rfl) (fun _ h => h.picks [] rfl) rfl rfl (p_mv rfl) (fun _ h => h.picks [] rfl) ?_
      refine at_take2 4 rfl (by kernel_rfl) (by kernel_rfl) (by kernel_rfl) (fun _ h => h.picks [] rfl) rfl rfl (p_mv rfl) (fun _ h => h.picks [] rfl) ?_
      refine at_take2 5 rfl (by kernel_rfl) (by kernel_rfl) (by kernel_rfl) (fun _ h => h.picks [] rfl) rfl rfl (p_mv rfl) (fun _ h => h.picks [] rfl) ?_
      refine at_take1 6 rfl (by kernel_rfl) (by kernel_rfl) (by kernel_rfl) (by kernel_rfl) rfl rfl (p_idxP (R := R3) Tryz.underlying22 ty3 rfl rfl hq9 he5) (fun _ h => h.picks [0] rfl) ?_
      refine at_take1 7 rfl (by kernel_rfl) (by kernel_rfl) (by kernel_rfl) (by kernel_rfl) rfl rfl (p_lde (o := 0) ty3 rfl rfl (.row 0 rfl) (getI_spec he5).2 rfl) (fun _ h => h.picks [0] rfl) ?_
      refine at_take2 8 rfl (by kernel_rfl) (by kernel_rfl) (by kernel_rfl) (fun _ h => h.picks [] rfl) rfl rfl (p_mv rfl) (fun _ h => h.picks [] rfl) ?_
      refine at_take2 9 rfl (by kernel_rfl) (by kernel_rfl) (by kernel_rfl) (fun _ h => h.picks [] rfl) rfl rfl (p_mv rfl) (fun _ h => h.picks [] rfl) ?_
      refine at_each (rs := [10]) (by kernel_rfl) (by decide) ?_
      refine (.cons rfl (fun I cnI => ?_) .nil)
      · refine lp rfl (p_idxP (R := R3) Tryz.underlying22 ty3 rfl rfl hq9 he6) ?_
        refine lj_nil ?_
        refine cnI _ _ (sof1 rfl rfl (fun _ h => h.picks [0] rfl)) ?_
        refine at_take1 11 rfl (by kernel_rfl) (by kernel_rfl) (by kernel_rfl) (by kernel_rfl) rfl rfl (p_lde (o := 0) ty3 rfl rfl (.row 0 rfl) (getI_spec he6).2 rfl) (fun _ h => h.picks [0] rfl) ?_
        refine at_take1 12 rfl (by kernel_rfl) (by kernel_rfl) (by kernel_rfl) (by kernel_rfl) rfl rfl (p_idxP (R := R3) Tryz.underlying22 ty3 rfl rfl hq9 he7) (fun _ h => h.picks [0] rfl) ?_
        refine at_each (rs := [13]) (by kernel_rfl) (by decide) ?_
        refine (.cons rfl (fun I cnI => ?_) .nil)
        · refine r_ste (k := 0) (o := 0) (vs := [.int .i64 e5]) ty3 rfl rfl rfl rfl rfl rfl rfl (getI_spec he7).2 e5 rfl rfl ?_
          refine lj_nil ?_
          refine cnI _ _ (sof2 rfl rfl (fun _ h => h.picks [] rfl)) ?_
          refine at_each (rs := [14]) (by kernel_rfl) (by decide) ?_
          refine (.cons rfl (fun I cnI => ?_) .nil)
          · refine lp rfl (p_idx Tryz.underlying22 ty3 rfl rfl (.row 0 rfl) he8) ?_
            refine lj_nil ?_
            refine cnI _ _ (sof2 rfl rfl (fun _ h => h.picks [] rfl)) ?_
            refine at_each (rs := [15]) (by kernel_rfl) (by decide) ?_
            refine (.cons rfl (fun I cnI => ?_) .nil)
            · refine r_ste (k := 0) (o := 0) (vs := [.int .i64 e6]) ty3 rfl rfl rfl rfl rfl rfl rfl (getI_spec he8).2 e6 rfl rfl ?_
              refine lj_nil ?_
              refine cnI _ _ (sof2 rfl rfl (fun _ h => h.picks [] rfl)) ?_
              refine at_done (by kernel_rfl) ?_
              refine nj_blk ?_
              refine nj_seq ?_
              refine cj_reg ?_
              refine lp rfl (p_mv rfl) ?_
              refine lp rfl (p_add rfl rfl) ?_
              refine lp rfl (p_mv rfl) ?_
              refine lp rfl (p_sub rfl rfl) ?_
              refine lp rfl (p_as rfl) ?_
              refine lp rfl (p_as rfl) ?_
              refine lj_nil ?_
              exact cnk3 _ _ (w64 (u1.1 + 1), w64 (u1.2.1 - 1), ((u1.2.2.set u1.1.toNat e5).set u1.2.1.toNat e6)) () (hJk3 _ (Option.some.inj hm).symm) ⟨rfl, rfl, rfl, trivial⟩ (fun _ h => h.picks [0] rfl)
    · have hm := ifB_f hb hm
      refine cj_exit rfl ?_
      exact (aftk3 (u1.1, u1.2.1, u1.2.2) () (hBk3 _ (Option.some.inj hm).symm)).sub ⟨rfl, rfl, rfl, trivial⟩ (fun _ h => h.picks [0] rfl)
end Go.Proofs.YtdeoejkgmeemaaaGreatDoor
