/- ControlMoves. -/
import Derived.Test.YtdbgpakmbjhmgaaLEf
namespace Go.Proofs.Ytdbgpakmbjhmgaa.H
open Go.RowKit Go.Proofs.YtdbgpakmbjhmgaaW.PrintWords Go.Proofs.YtdbgpakmbjhmgaaW.PrintLast Go.Proofs.YtdbgpakmbjhmgaaW.PrintMore
set_option linter.unusedVariables false
set_option linter.unusedSimpArgs false

set_option maxHeartbeats 4000000 in
set_option maxRecDepth 100000 in
theorem moves_calls (shards bin : Int) (A : Option Addr) (cc : Nat) (raw : List S53) (place : Int) (ito : Int) (w : World) (hr : Kd.C k53 w A raw.length raw) (hs : InI shards) (hb : InI bin) (hraw : ∀ x ∈ raw, InI x.f0 ∧ InI x.f1 ∧ InI x.f2) (hplace : InI place) (hito : InI ito) :
    Calls Try.prog 5 #[.int .i64 shards, .int .i64 bin, .slice A raw.length cc, .int .i64 place, .int .i64 ito] w fun e w' => e = .returned (.bool true) ∧ Below w.heap.size w w' := by
  have HS0 := Lib.hid (Hs.start w)
  have HCO := Lib.hid (fun W (hbw : Below w.heap.size w W) => (control_calls shards bin A cc raw W (Kd.C_below hr hbw) hs hb hraw).mono (fun _ _ h => (got1_of h : Got1 (controlC shards bin raw) _ _ _)))
  have HG := Lib.hid (good_control shards bin raw)
  generalize controlC shards bin raw = c at *
  clear hr hs hb hraw
  go_enter Try.func5, Try.ntmps5
  go_upto_region 1 with (fail)
  go_cut [11] (fun o W => o = .bool true ∧ Aside0 (Hs w [] W))
  case first =>
    go_wp2_with fail
    refine (awake_calls _).mono ?_
    rintro e W1 ⟨rfl, hb⟩
    go_wp2
    go_meet
    case rel => exact ⟨rfl, ⟨HS0.out.below hb⟩⟩
  obtain ⟨rfl, HS1⟩ := hcut
  go_upto_region 2 with (fail)
  go_cut [12] (fun p W => ∃ g, p = .pointer (some ⟨g, 0, none⟩) ∧ Aside0 (Hs w [(g, c)] W))
  case first =>
    go_wp2_with fail
    refine (HCO.out _ HS1.out.1).mono ?_
    rintro e W1 ⟨A3, c3, A4, c4, rfl, ho, hp, hb⟩
    go_wp2
    go_meet
    case rel => exact ⟨_, rfl, ⟨Hs.new HS1.out hb ho hp HG.out.short⟩⟩
  obtain ⟨g0, rfl, HS2⟩ := hcut
  clear HS0 HS1 HCO
  have hm1 := HG.out.right.m1
  have hm8 := HG.out.right.m8
  have hp1 := HG.out.right.p1
  have hp8 := HG.out.right.p8
  have HPK1 := Lib.hid (fun w => pick_calls place c.2.2.length hplace (by omega) (by omega) w)
  have HPK2 := Lib.hid (fun w => pick_calls ito c.2.1.length hito (by omega) (by omega) w)
  obtain ⟨s0, s1⟩ := pickI_bound place c.2.2.length (by omega)
  obtain ⟨i0, i1⟩ := pickI_bound ito c.2.1.length (by omega)
  generalize pickI place c.2.2.length = s at *
  generalize pickI ito c.2.1.length = i at *
  obtain ⟨Ak1, ck1, Ak2, ck2, hgk, hck, hdk, hlk, hmk⟩ := HS2.out.2 (g0, c) (by simp)
  try dsimp only at hgk hck hdk hlk hmk
  obtain ⟨k0, k1, k2, _, _, _, kl⟩ := three_cells hgk
  obtain ⟨ad, hA, m0, m1⟩ := at_T45 hck i i0 i1
  subst hA
  have hmem := rd_memM i0 i1
  obtain ⟨h, hh⟩ : ∃ h, h = (rd_T45 c.2.1 i).f0 := ⟨_, rfl⟩
  rw [← hh] at m0
  have hhas : hasM c.2.1 h = true := (hasM_iff _ _).2 ⟨_, hmem, hh.symm⟩
  obtain ⟨p, hp⟩ : ∃ r, r = planC s h c.1 c.2.1 c.2.2 := ⟨_, rfl⟩
  obtain ⟨d, hd⟩ : ∃ r, r = commitC s p.2.1 p.2.2.1 p.2.2.2 := ⟨_, rfl⟩
  obtain ⟨x, hx⟩ : ∃ r, r = cancelC s p.2.1 p.2.2.1 p.2.2.2 := ⟨_, rfl⟩
  have HL := Lib.hid (moves_law HG.out (by decide) s0 s1 hhas p d x hp hd hx)
  have HP := Lib.hid hp
  have HD := Lib.hid hd
  have HX := Lib.hid hx
  clear hp hd hx hmem hhas hh m1 hgk hck hdk hlk hmk
  go_wp2_with fail
  refine (HPK1.out _).mono ?_
  rintro e W' ⟨rfl, rfl⟩
  go_upto_region 4 with (fail)
  go_cut [14] (fun v W => v = .int .i64 h ∧ Aside0 (Hs w [(g0, c)] W))
  case first =>
    go_quiet ((go_at_call 14; exact Calls.quiet_of_same ((HPK2.out _).mono fun _ _ hz => ⟨hz.1, hz.2.symm⟩)))
    go_wp2
    go_meet
    case rel => exact ⟨rfl, ⟨HS2.out.below (pw_below_drewN (Below.refl _ _) _)⟩⟩
  clear k0 k1 k2 kl m0 HPK1 HPK2 HS2
  obtain ⟨rfl, HS3⟩ := hcut
  -- Plan
  obtain ⟨Ak1, ck1, Ak2, ck2, hgk, hck, hdk, hlk, hmk⟩ := HS3.out.2 (g0, c) (by simp)
  try dsimp only at hgk hck hdk hlk hmk
  obtain ⟨k0, k1, k2, _, _, _, kl⟩ := three_cells hgk
  have HC := Lib.hid ((plan_calls s h c.1 Ak1 ck1 c.2.1 Ak2 ck2 c.2.2 _ hck hdk hlk hmk).mono (fun _ _ hz => (got_of hz : Got (planC s h c.1 c.2.1 c.2.2) _ _ _)))
  clear hgk hck hdk hlk hmk
  rw [← HP.out] at HC
  go_upto_region 5 with (fail)
  go_cut [15, 16] (fun vp ve W => ve = .int .i64 (p).1 ∧ ∃ gz, vp = .pointer (some ⟨gz, 0, none⟩) ∧ Aside0 (Hs w ((gz, (p).2) :: [(g0, c)]) W))
  case first =>
    go_wp2_with fail
    refine HC.out.mono ?_
    rintro e W1 ⟨A3, c3, A4, c4, rfl, ho, hp, hb⟩
    go_wp2
    go_meet
    case rel => exact ⟨rfl, _, rfl, ⟨Hs.new HS3.out hb ho hp HL.out.sp⟩⟩
  clear HC k0 k1 k2 kl
  obtain ⟨rfl, g1, rfl, HS4⟩ := hcut
  obtain ⟨Ak1, ck1, Ak2, ck2, hgk, hck, hdk, hlk, hmk⟩ := HS4.out.2 (g0, c) (by simp)
  try dsimp only at hgk hck hdk hlk hmk
  obtain ⟨k0, k1, k2, _, _, _, kl⟩ := three_cells hgk
  obtain ⟨ae, hA, p0, p1, p2⟩ := at_T48 hdk s s0 s1
  subst hA
  by_cases d1 : ¬ (rd_T48 c.2.2 s).f2 = 0 ∨ (rd_T48 c.2.2 s).f0 = h
  · obtain ⟨q1, q2⟩ := HL.out.no d1
    have HQ2 := Lib.hid q2
    clear hgk hck hdk hlk hmk
    have HV := Lib.hid (show ((rd_T48 c.2.2 s).f2 != 0 || (rd_T48 c.2.2 s).f0 == h) = true by simp; exact d1)
    clear d1 q2
    generalize rd_T48 c.2.2 s = y at *
    go_upto_region 6 with (fail)
    go_cut [66] (fun v W => v = .bool true ∧ W = wc)
    case first =>
      have hz : (y.f2 != 0) = true ∨ ((y.f2 != 0) = false ∧ (y.f0 == h) = true) := by
        have hv := HV.out
        cases z1 : y.f2 != 0
        · right; rw [z1] at hv; exact ⟨rfl, by simpa using hv⟩
        · left; rfl
      rcases hz with z1 | ⟨z1, z2⟩
      all_goals
        go_wp2
        go_meet
        case rel => exact ⟨rfl, rfl⟩
    obtain ⟨rfl, rfl⟩ := hcut
    have b1 : (p.1 == 92 || p.1 == 1) = true := by simp; exact q1
    clear k0 k1 k2 kl p0 p1 p2 q1
    have hb1 : (p.1 == 92) = true ∨ ((p.1 == 92) = false ∧ (p.1 == 1) = true) := by
      cases z : p.1 == 92
      · right; exact ⟨rfl, by rw [z] at b1; simpa using b1⟩
      · left; rfl
    clear b1
    rcases hb1 with b1 | ⟨b1, b2⟩
    all_goals
      obtain ⟨Al1, cl1, Al2, cl2, hgl, hcl, hdl, hll, hml⟩ := HS4.out.2 (g1, p.2) (by simp)
      try dsimp only at hgl hcl hdl hll hml
      obtain ⟨l0, l1, l2, _, _, _, ll⟩ := three_cells hgl
      obtain ⟨Ak1, ck1, Ak2, ck2, hgk, hck, hdk, hlk, hmk⟩ := HS4.out.2 (g0, c) (by simp)
      try dsimp only at hgk hck hdk hlk hmk
      obtain ⟨k0, k1, k2, _, _, _, kl⟩ := three_cells hgk
      have HQS0 := Lib.hid (fun W hb => same_is (c1 := cl1) (c2 := cl2) (d1 := ck1) (d2 := ck2) (W := W) (sameK_yes HQ2.out) (Kd.C_below hcl hb) (Kd.C_below hdl hb) (Kd.C_below hck hb) (Kd.C_below hdk hb))
      have HGSl := Lib.hid hgl
      have HGSk := Lib.hid hgk
      have HBS0 := Lib.hid (Below.refl wc.heap.size wc)
      clear hgl hcl hdl hll hml
      clear hgk hck hdk hlk hmk
      go_wp2_with fail
      refine (HQS0.out _ HBS0.out).mono ?_
      rintro e WS0 ⟨rfl, hb⟩
      have HBS1 := Lib.hid (below_then HBS0.out HBS0.out.size hb)
      clear hb
      clear l0 l1 l2 ll k0 k1 k2 kl
      obtain ⟨l0, l1, l2, _, _, _, ll⟩ := three_cells (kept_on HBS1.out HGSl.out)
      obtain ⟨k0, k1, k2, _, _, _, kl⟩ := three_cells (kept_on HBS1.out HGSk.out)
      have HFS := Lib.hid (HS4.out.below HBS1.out)
      go_wp2
      go_ret
      exact ⟨rfl, HFS.out.1⟩
  have d2 : (rd_T48 c.2.2 s).f2 = 0 := by
    by_cases z : (rd_T48 c.2.2 s).f2 = 0
    · exact z
    · exact absurd (Or.inl z) d1
  have d3 : ¬ (rd_T48 c.2.2 s).f0 = h := fun z => d1 (Or.inr z)
  have HY := Lib.hid (HL.out.yes d2 d3)
  have b1 : ((rd_T48 c.2.2 s).f2 != 0) = false := by simpa using d2
  have b2 : ((rd_T48 c.2.2 s).f0 == h) = false := by simpa using d3
  clear d1 d2 d3 hgk hck hdk hlk hmk
  go_upto_region 8 with (fail)
  clear k0 k1 k2 kl p0 p1 p2 b1 b2
  -- Commit
  obtain ⟨Ak1, ck1, Ak2, ck2, hgk, hck, hdk, hlk, hmk⟩ := HS4.out.2 (g1, p.2) (by simp)
  try dsimp only at hgk hck hdk hlk hmk
  obtain ⟨k0, k1, k2, _, _, _, kl⟩ := three_cells hgk
  have HC := Lib.hid ((commit_calls s p.2.1 Ak1 ck1 p.2.2.1 Ak2 ck2 p.2.2.2 _ hck hdk hlk hmk).mono (fun _ _ hz => (got_of hz : Got (commitC s p.2.1 p.2.2.1 p.2.2.2) _ _ _)))
  clear hgk hck hdk hlk hmk
  rw [← HD.out] at HC
  go_upto_region 8 with (fail)
  go_cut [17, 18] (fun vp ve W => ve = .int .i64 (d).1 ∧ ∃ gz, vp = .pointer (some ⟨gz, 0, none⟩) ∧ Aside0 (Hs w ((gz, (d).2) :: [(g1, p.2), (g0, c)]) W))
  case first =>
    go_wp2_with fail
    refine HC.out.mono ?_
    rintro e W1 ⟨A3, c3, A4, c4, rfl, ho, hp, hb⟩
    go_wp2
    go_meet
    case rel => exact ⟨rfl, _, rfl, ⟨Hs.new HS4.out hb ho hp HL.out.sd⟩⟩
  clear HC k0 k1 k2 kl
  obtain ⟨rfl, g2, rfl, HS5⟩ := hcut
  -- Cancel
  obtain ⟨Ak1, ck1, Ak2, ck2, hgk, hck, hdk, hlk, hmk⟩ := HS5.out.2 (g1, p.2) (by simp)
  try dsimp only at hgk hck hdk hlk hmk
  obtain ⟨k0, k1, k2, _, _, _, kl⟩ := three_cells hgk
  have HC := Lib.hid ((cancel_calls s p.2.1 Ak1 ck1 p.2.2.1 Ak2 ck2 p.2.2.2 _ hck hdk hlk hmk).mono (fun _ _ hz => (got_of hz : Got (cancelC s p.2.1 p.2.2.1 p.2.2.2) _ _ _)))
  clear hgk hck hdk hlk hmk
  rw [← HX.out] at HC
  go_upto_region 9 with (fail)
  go_cut [19, 20] (fun vp ve W => ve = .int .i64 (x).1 ∧ ∃ gz, vp = .pointer (some ⟨gz, 0, none⟩) ∧ Aside0 (Hs w ((gz, (x).2) :: [(g2, d.2), (g1, p.2), (g0, c)]) W))
  case first =>
    go_wp2_with fail
    refine HC.out.mono ?_
    rintro e W1 ⟨A3, c3, A4, c4, rfl, ho, hp, hb⟩
    go_wp2
    go_meet
    case rel => exact ⟨rfl, _, rfl, ⟨Hs.new HS5.out hb ho hp HL.out.sk⟩⟩
  clear HC k0 k1 k2 kl
  obtain ⟨rfl, g3, rfl, HS6⟩ := hcut
  have b1 : (p.1 != 0) = false := by rw [HY.out.1]; rfl
  have b2 : (d.1 != 0) = false := by rw [HY.out.2.1]; rfl
  have b3 : (x.1 != 0) = false := by rw [HY.out.2.2.1]; rfl
  obtain ⟨Al1, cl1, Al2, cl2, hgl, hcl, hdl, hll, hml⟩ := HS6.out.2 (g1, p.2) (by simp)
  try dsimp only at hgl hcl hdl hll hml
  obtain ⟨l0, l1, l2, _, _, _, ll⟩ := three_cells hgl
  obtain ⟨Aj1, cj1, Aj2, cj2, hgj, hcj, hdj, hlj, hmj⟩ := HS6.out.2 (g2, d.2) (by simp)
  try dsimp only at hgj hcj hdj hlj hmj
  obtain ⟨j0, j1, j2, _, _, _, jl⟩ := three_cells hgj
  obtain ⟨Ai1, ci1, Ai2, ci2, hgi, hci, hdi, hli, hmi⟩ := HS6.out.2 (g3, x.2) (by simp)
  try dsimp only at hgi hci hdi hli hmi
  obtain ⟨i0, i1, i2, _, _, _, il⟩ := three_cells hgi
  obtain ⟨Ak1, ck1, Ak2, ck2, hgk, hck, hdk, hlk, hmk⟩ := HS6.out.2 (g0, c) (by simp)
  try dsimp only at hgk hck hdk hlk hmk
  obtain ⟨k0, k1, k2, _, _, _, kl⟩ := three_cells hgk
  have HQS0 := Lib.hid (fun W hb => right_is (a := p.2) (c1 := cl1) (c2 := cl2) (W := W) HY.out.2.2.2.1 (Kd.C_below hcl hb) (Kd.C_below hdl hb))
  have HQS1 := Lib.hid (fun W hb => right_is (a := d.2) (c1 := cj1) (c2 := cj2) (W := W) HY.out.2.2.2.2.1 (Kd.C_below hcj hb) (Kd.C_below hdj hb))
  have HQS2 := Lib.hid (fun W hb => same_is (c1 := ci1) (c2 := ci2) (d1 := ck1) (d2 := ck2) (W := W) (sameK_yes HY.out.2.2.2.2.2.1) (Kd.C_below hci hb) (Kd.C_below hdi hb) (Kd.C_below hck hb) (Kd.C_below hdk hb))
  have HGSl := Lib.hid hgl
  have HGSj := Lib.hid hgj
  have HGSi := Lib.hid hgi
  have HGSk := Lib.hid hgk
  have HBS0 := Lib.hid (Below.refl wc.heap.size wc)
  clear hgl hcl hdl hll hml
  clear hgj hcj hdj hlj hmj
  clear hgi hci hdi hli hmi
  clear hgk hck hdk hlk hmk
  go_wp2_with fail
  refine (HQS0.out _ HBS0.out).mono ?_
  rintro e WS0 ⟨rfl, hb⟩
  have HBS1 := Lib.hid (below_then HBS0.out HBS0.out.size hb)
  clear hb
  clear l0 l1 l2 ll j0 j1 j2 jl i0 i1 i2 il k0 k1 k2 kl
  obtain ⟨l0, l1, l2, _, _, _, ll⟩ := three_cells (kept_on HBS1.out HGSl.out)
  obtain ⟨j0, j1, j2, _, _, _, jl⟩ := three_cells (kept_on HBS1.out HGSj.out)
  obtain ⟨i0, i1, i2, _, _, _, il⟩ := three_cells (kept_on HBS1.out HGSi.out)
  obtain ⟨k0, k1, k2, _, _, _, kl⟩ := three_cells (kept_on HBS1.out HGSk.out)
  go_wp2_with fail
  refine (HQS1.out _ HBS1.out).mono ?_
  rintro e WS1 ⟨rfl, hb⟩
  have HBS2 := Lib.hid (below_then HBS1.out HBS1.out.size hb)
  clear hb
  clear l0 l1 l2 ll j0 j1 j2 jl i0 i1 i2 il k0 k1 k2 kl
  obtain ⟨l0, l1, l2, _, _, _, ll⟩ := three_cells (kept_on HBS2.out HGSl.out)
  obtain ⟨j0, j1, j2, _, _, _, jl⟩ := three_cells (kept_on HBS2.out HGSj.out)
  obtain ⟨i0, i1, i2, _, _, _, il⟩ := three_cells (kept_on HBS2.out HGSi.out)
  obtain ⟨k0, k1, k2, _, _, _, kl⟩ := three_cells (kept_on HBS2.out HGSk.out)
  go_wp2_with fail
  refine (HQS2.out _ HBS2.out).mono ?_
  rintro e WS2 ⟨rfl, hb⟩
  have HBS3 := Lib.hid (below_then HBS2.out HBS2.out.size hb)
  clear hb
  clear l0 l1 l2 ll j0 j1 j2 jl i0 i1 i2 il k0 k1 k2 kl
  have HFS := Lib.hid (HS6.out.below HBS3.out)
  have HS7 := Lib.hid (HFS.out.sub (L' := [(g2, d.2), (g0, c)]) (by simp))
  clear HFS b1 b2 b3
  have hwe : IntKind.i64.wrap ((rd_T48 c.2.2 s).f1 + 1) = (rd_T48 c.2.2 s).f1 + 1 := by
    have h1 := (HG.out.right.ok _ (rd_mem s0 s1)).2.1
    have h2 := (HG.out.right.ok _ (rd_mem s0 s1)).2.2.1
    exact IntWalk.i64_in _ ⟨by omega, by omega⟩
  have HWE := Lib.hid hwe; clear hwe
  go_wp2
  go_loopg [21] (c.2.2.length) (fun gk v W => ∃ n : Nat, n ≤ c.2.2.length ∧ c.2.2.length ≤ n + gk ∧ v = .int .i64 n ∧ Aside0 (Hs w [(g2, d.2), (g0, c)] W))
  case atStart => exact ⟨0, by omega, by omega, rfl, ⟨HS7.out⟩⟩
  case round =>
    obtain ⟨n, hn1, hn2, rfl, HE⟩ := hrel
    obtain ⟨Ak1, ck1, Ak2, ck2, hgk, hck, hdk, hlk, hmk⟩ := HE.out.2 (g0, c) (by simp)
    try dsimp only at hgk hck hdk hlk hmk
    obtain ⟨k0, k1, k2, _, _, _, kl⟩ := three_cells hgk
    obtain ⟨Aj1, cj1, Aj2, cj2, hgj, hcj, hdj, hlj, hmj⟩ := HE.out.2 (g2, d.2) (by simp)
    try dsimp only at hgj hcj hdj hlj hmj
    obtain ⟨j0, j1, j2, _, _, _, jl⟩ := three_cells hgj
    by_cases hlt : n < c.2.2.length
    · have hdl := HY.out.2.2.2.2.2.2.1
      obtain ⟨ae, hA, p0, p1, p2⟩ := at_T48 hdk n (by omega) (by omega)
      obtain ⟨ae', hA', e0, e1, e2⟩ := at_T48 hdk s s0 s1
      subst hA
      injection hA' with hA'
      subst hA'
      obtain ⟨af, hA, q0, q1, q2⟩ := at_T48 hdj n (by omega) (by omega)
      subst hA
      rw [Int.toNat_natCast] at p0 p1 p2 q0 q1 q2
      have hwant := HY.out.2.2.2.2.2.2.2 n hlt
      unfold wantP at hwant
      have HDL := Lib.hid hdl
      have hn3 : (n : Int) < c.2.2.length := by omega
      have hn4 : (n : Int) < d.2.2.2.length := by omega
      have hn5 : (0 : Int) ≤ n := by omega
      have ml0 := World.block_lt_of_cell? _ _ p0
      have ml1 := World.block_lt_of_cell? _ _ q0
      have ml2 := World.block_lt_of_cell? _ _ e0
      clear hdl hgk hck hdk hlk hmk hgj hcj hdj hlj hmj
      by_cases hs : (n : Int) = s
      · rw [if_pos hs] at hwant
        rw [hwant] at q0 q1 q2
        have bs : ((n : Int) == s) = true := by simpa using hs
        clear hwant hs
        have hwe := HWE.out
        generalize rd_T48 c.2.2 n = y at *
        generalize rd_T48 c.2.2 s = z at *
        go_upto_region 18 with (fail)
        have hal := below_alloc (Below.refl wr.heap.size wr) (.cells #[.int .i64 h, .int .i64 (z.f1 + 1), .int .i64 0] 48)
        have hnw := cells3 (heap_alloc_new wr (.cells #[.int .i64 h, .int .i64 (z.f1 + 1), .int .i64 0] 48))
        have hq0 := kept_cell hal q0
        have hq1 := kept_cell hal q1
        have hq2 := kept_cell hal q2
        have hj2 := kept_cell hal j2
        generalize wr.alloc (.cells #[.int .i64 h, .int .i64 (z.f1 + 1), .int .i64 0] 48) = W5 at *
        obtain ⟨n0, n1, n2, _, _, _, nl⟩ := hnw
        have HAL := Lib.hid hal
        clear hal p0 p1 p2 e0 e1 e2 q0 q1 q2 k0 k1 k2 kl j0 j1 j2 jl ml0 ml1 ml2
        go_quiet (fail)
        go_wp2
        go_roundg (gk - 1)
        case measure => omega
        case rel => exact ⟨n + 1, by omega, by omega, by go_num, ⟨HE.out.below (pw_below_drewN HAL.out _)⟩⟩
      · rw [if_neg hs] at hwant
        rw [hwant] at q0 q1 q2
        have bs : ((n : Int) == s) = false := by simpa using hs
        clear hwant hs
        generalize rd_T48 c.2.2 n = y at *
        go_upto_region 18 with (fail)
        have hal := below_alloc (Below.refl wr.heap.size wr) (.cells #[.int .i64 y.f0, .int .i64 y.f1, .int .i64 y.f2] 48)
        have hnw := cells3 (heap_alloc_new wr (.cells #[.int .i64 y.f0, .int .i64 y.f1, .int .i64 y.f2] 48))
        have hq0 := kept_cell hal q0
        have hq1 := kept_cell hal q1
        have hq2 := kept_cell hal q2
        have hj2 := kept_cell hal j2
        generalize wr.alloc (.cells #[.int .i64 y.f0, .int .i64 y.f1, .int .i64 y.f2] 48) = W5 at *
        obtain ⟨n0, n1, n2, _, _, _, nl⟩ := hnw
        have HAL := Lib.hid hal
        clear hal p0 p1 p2 e0 e1 e2 q0 q1 q2 k0 k1 k2 kl j0 j1 j2 jl ml0 ml1 ml2
        go_quiet (fail)
        go_wp2
        go_roundg (gk - 1)
        case measure => omega
        case rel => exact ⟨n + 1, by omega, by omega, by go_num, ⟨HE.out.below (pw_below_drewN HAL.out _)⟩⟩
    · obtain rfl : n = c.2.2.length := by omega
      go_wp2
      go_ret
      exact ⟨rfl, HE.out.1⟩
end Go.Proofs.Ytdbgpakmbjhmgaa.H
