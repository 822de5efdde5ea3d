/- ControlOnce. -/
import Derived.Test.YtdbgpakmbjhmgaaLEf
namespace Go.Proofs.Ytdbgpakmbjhmgaa.H
open Go.RowKit Go.Proofs.YtdbgpakmbjhmgaaW.PrintWords Go.Proofs.YtdbgpakmbjhmgaaW.PrintLast Go.Proofs.YtdbgpakmbjhmgaaW.PrintMore
set_option linter.unusedVariables false
set_option linter.unusedSimpArgs false

set_option maxHeartbeats 4000000 in
set_option maxRecDepth 100000 in
theorem once_calls (shards bin : Int) (A : Option Addr) (cc : Nat) (raw : List S53) (name : Int) (w : World) (hr : Kd.C k53 w A raw.length raw) (hs : InI shards) (hb : InI bin) (hraw : ∀ x ∈ raw, InI x.f0 ∧ InI x.f1 ∧ InI x.f2) (hname : InI name) :
    Calls Try.prog 7 #[.int .i64 shards, .int .i64 bin, .slice A raw.length cc, .int .i64 name] w fun e w' => e = .returned (.bool true) ∧ Below w.heap.size w w' := by
  have HS0 := Lib.hid (Hs.start w)
  have HCO := Lib.hid (fun W (hbw : Below w.heap.size w W) => (control_calls shards bin A cc raw W (Kd.C_below hr hbw) hs hb hraw).mono (fun _ _ h => (got1_of h : Got1 (controlC shards bin raw) _ _ _)))
  have HG := Lib.hid (good_control shards bin raw)
  generalize controlC shards bin raw = c at *
  clear hr hs hb hraw
  go_enter Try.func7, Try.ntmps7
  go_upto_region 1 with (fail)
  go_cut [9] (fun o W => o = .bool true ∧ Aside0 (Hs w [] W))
  case first =>
    go_wp2_with fail
    refine (awake_calls _).mono ?_
    rintro e W1 ⟨rfl, hb⟩
    go_wp2
    go_meet
    case rel => exact ⟨rfl, ⟨HS0.out.below hb⟩⟩
  obtain ⟨rfl, HS1⟩ := hcut
  go_upto_region 2 with (fail)
  go_cut [10] (fun p W => ∃ g, p = .pointer (some ⟨g, 0, none⟩) ∧ Aside0 (Hs w [(g, c)] W))
  case first =>
    go_wp2_with fail
    refine (HCO.out _ HS1.out.1).mono ?_
    rintro e W1 ⟨A3, c3, A4, c4, rfl, ho, hp, hb⟩
    go_wp2
    go_meet
    case rel => exact ⟨_, rfl, ⟨Hs.new HS1.out hb ho hp HG.out.short⟩⟩
  obtain ⟨g0, rfl, HS2⟩ := hcut
  clear HS0 HS1 HCO
  have hm8 := HG.out.right.m8
  have hp8 := HG.out.right.p8
  have HPK := Lib.hid (fun w => pick_calls name 50 hname (by omega) (by omega) w)
  obtain ⟨i0, i1⟩ := pickI_bound name 50 (by omega)
  generalize pickI name 50 = q at *
  have hw : IntKind.i64.wrap (50 + q) = 50 + q := IntWalk.i64_in _ ⟨by omega, by omega⟩
  obtain ⟨r1, hr1⟩ : ∃ r, r = finC c.1 c.2.1 c.2.2 := ⟨_, rfl⟩
  obtain ⟨j, hj⟩ : ∃ r, r = joinC (50 + q) 2 c.1 c.2.1 c.2.2 := ⟨_, rfl⟩
  obtain ⟨t, ht⟩ : ∃ r, r = joinC (50 + q) 2 j.2.1 j.2.2.1 j.2.2.2 := ⟨_, rfl⟩
  have HL := Lib.hid (once_law HG.out (show 50 ≤ 50 + q by omega) (by omega) r1 _ j t hr1 rfl hj ht)
  have HR1 := Lib.hid hr1
  have HR2 := Lib.hid HL.out.same.symm
  have HJ := Lib.hid hj
  have HT := Lib.hid ht
  clear hr1 hj ht
  -- Finalise
  obtain ⟨Ak1, ck1, Ak2, ck2, hgk, hck, hdk, hlk, hmk⟩ := HS2.out.2 (g0, c) (by simp)
  try dsimp only at hgk hck hdk hlk hmk
  obtain ⟨k0, k1, k2, _, _, _, kl⟩ := three_cells hgk
  have HC := Lib.hid ((finalise_calls  c.1 Ak1 ck1 c.2.1 Ak2 ck2 c.2.2 _ hck hdk hlk hmk).mono (fun _ _ hz => (got_of hz : Got (finC  c.1 c.2.1 c.2.2) _ _ _)))
  clear hgk hck hdk hlk hmk
  rw [← HR1.out] at HC
  go_upto_region 3 with (fail)
  go_cut [11, 12] (fun vp ve W => ve = .int .i64 (r1).1 ∧ ∃ gz, vp = .pointer (some ⟨gz, 0, none⟩) ∧ Aside0 (Hs w ((gz, (r1).2) :: [(g0, c)]) W))
  case first =>
    go_wp2_with fail
    refine HC.out.mono ?_
    rintro e W1 ⟨A3, c3, A4, c4, rfl, ho, hp, hb⟩
    go_wp2
    go_meet
    case rel => exact ⟨rfl, _, rfl, ⟨Hs.new HS2.out hb ho hp HL.out.s1⟩⟩
  clear HC k0 k1 k2 kl
  obtain ⟨rfl, g1, rfl, HS3⟩ := hcut
  -- Finalise
  obtain ⟨Ak1, ck1, Ak2, ck2, hgk, hck, hdk, hlk, hmk⟩ := HS3.out.2 (g1, r1.2) (by simp)
  try dsimp only at hgk hck hdk hlk hmk
  obtain ⟨k0, k1, k2, _, _, _, kl⟩ := three_cells hgk
  have HC := Lib.hid ((finalise_calls  r1.2.1 Ak1 ck1 r1.2.2.1 Ak2 ck2 r1.2.2.2 _ hck hdk hlk hmk).mono (fun _ _ hz => (got_of hz : Got (finC  r1.2.1 r1.2.2.1 r1.2.2.2) _ _ _)))
  clear hgk hck hdk hlk hmk
  rw [← HR2.out] at HC
  go_upto_region 4 with (fail)
  go_cut [13, 14] (fun vp ve W => ve = .int .i64 (r1).1 ∧ ∃ gz, vp = .pointer (some ⟨gz, 0, none⟩) ∧ Aside0 (Hs w ((gz, (r1).2) :: [(g1, r1.2), (g0, c)]) W))
  case first =>
    go_wp2_with fail
    refine HC.out.mono ?_
    rintro e W1 ⟨A3, c3, A4, c4, rfl, ho, hp, hb⟩
    go_wp2
    go_meet
    case rel => exact ⟨rfl, _, rfl, ⟨Hs.new HS3.out hb ho hp HL.out.s1⟩⟩
  clear HC k0 k1 k2 kl
  obtain ⟨rfl, g2, rfl, HS4⟩ := hcut
  obtain ⟨Aj1, cj1, Aj2, cj2, hgj, hcj, hdj, hlj, hmj⟩ := HS4.out.2 (g1, r1.2) (by simp)
  try dsimp only at hgj hcj hdj hlj hmj
  obtain ⟨j0, j1, j2, _, _, _, jl⟩ := three_cells hgj
  obtain ⟨Al1, cl1, Al2, cl2, hgl, hcl, hdl, hll, hml⟩ := HS4.out.2 (g2, r1.2) (by simp)
  try dsimp only at hgl hcl hdl hll hml
  obtain ⟨l0, l1, l2, _, _, _, ll⟩ := three_cells hgl
  have HQ := Lib.hid (same_is (c1 := cj1) (c2 := cj2) (d1 := cl1) (d2 := cl2) (sameK_yes (rfl : r1.2 = r1.2)) hcj hdj hcl hdl)
  clear hgj hcj hdj hlj hmj hgl hcl hdl hll hml
  go_wp2_with fail
  refine HQ.out.mono ?_
  rintro e W1 ⟨rfl, hb⟩
  have HS5 := Lib.hid ((HS4.out.below hb).sub (L' := [(g0, c)]) (by simp))
  clear hb j0 j1 j2 jl l0 l1 l2 ll HQ
  go_wp2_with fail
  refine (HPK.out _).mono ?_
  rintro e W' ⟨rfl, rfl⟩
  -- Join
  obtain ⟨Ak1, ck1, Ak2, ck2, hgk, hck, hdk, hlk, hmk⟩ := HS5.out.2 (g0, c) (by simp)
  try dsimp only at hgk hck hdk hlk hmk
  obtain ⟨k0, k1, k2, _, _, _, kl⟩ := three_cells hgk
  have HC := Lib.hid ((join_calls (50 + q) 2 c.1 Ak1 ck1 c.2.1 Ak2 ck2 c.2.2 _ hck hdk hlk hmk).mono (fun _ _ hz => (got_of hz : Got (joinC (50 + q) 2 c.1 c.2.1 c.2.2) _ _ _)))
  clear hgk hck hdk hlk hmk
  rw [← HJ.out] at HC
  go_upto_region 8 with (fail)
  go_cut [16, 17] (fun vp ve W => ve = .int .i64 (j).1 ∧ ∃ gz, vp = .pointer (some ⟨gz, 0, none⟩) ∧ Aside0 (Hs w ((gz, (j).2) :: [(g0, c)]) W))
  case first =>
    go_wp2_with fail
    refine HC.out.mono ?_
    rintro e W1 ⟨A3, c3, A4, c4, rfl, ho, hp, hb⟩
    go_wp2
    go_meet
    case rel => exact ⟨rfl, _, rfl, ⟨Hs.new HS5.out hb ho hp HL.out.sj⟩⟩
  clear HC k0 k1 k2 kl
  obtain ⟨rfl, g3, rfl, HS6⟩ := hcut
  obtain ⟨Ak1, ck1, Ak2, ck2, hgk, hck, hdk, hlk, hmk⟩ := HS6.out.2 (g0, c) (by simp)
  try dsimp only at hgk hck hdk hlk hmk
  obtain ⟨k0, k1, k2, _, _, _, kl⟩ := three_cells hgk
  by_cases d1 : j.1 = 0
  rotate_left
  · have b1 : (j.1 != 0) = true := by simpa using d1
    have b2 : (j.1 == 50) = true := by simpa using (HL.out.full d1).1
    have b3 : ((c.2.1.length : Int) == 8) = true := by rw [(HL.out.full d1).2]; rfl
    clear d1
    go_wp2
    go_ret
    exact ⟨rfl, HS6.out.1⟩
  have b1 : (j.1 != 0) = false := by simpa using d1
  have HY := Lib.hid (HL.out.ok d1)
  clear d1 k0 k1 k2 kl hgk hck hdk hlk hmk
  obtain ⟨Aj1, cj1, Aj2, cj2, hgj, hcj, hdj, hlj, hmj⟩ := HS6.out.2 (g3, j.2) (by simp)
  try dsimp only at hgj hcj hdj hlj hmj
  obtain ⟨j0, j1, j2, _, _, _, jl⟩ := three_cells hgj
  have hjl := HL.out.sj.1
  go_wp2
  go_loopw [18, 19] (fun v18 v19 W => ∃ k : Nat, k ≤ j.2.2.1.length ∧ v18 = .int .i64 ((countM ⟨50 + q, 2⟩ (j.2.2.1.take k) : Nat) : Int) ∧ v19 = .int .i64 k ∧ W = wc) (fun _ v _ => j.2.2.1.length - (intOf v).toNat)
  case atStart => exact ⟨0, Nat.zero_le _, rfl, rfl, rfl⟩
  case round =>
    obtain ⟨k, hk, rfl, rfl, hwr⟩ := hrel
    obtain rfl : wc = wr := hwr.symm
    by_cases hlt : k < j.2.2.1.length
    · obtain ⟨ad, hA, h0, h1⟩ := at_T45 hcj k (by omega) (by omega)
      subst hA
      rw [Int.toNat_natCast] at h0 h1
      have HCT := Lib.hid (countM_take ⟨50 + q, 2⟩ j.2.2.1 k hlt)
      have hcl := countM_le ⟨50 + q, 2⟩ (j.2.2.1.take k)
      rw [List.length_take] at hcl
      generalize rd_T45 j.2.2.1 k = x at *
      have hw2 : IntKind.i64.wrap (((countM ⟨50 + q, 2⟩ (j.2.2.1.take k) : Nat) : Int) + 1) = ((countM ⟨50 + q, 2⟩ (j.2.2.1.take k) : Nat) : Int) + 1 := IntWalk.i64_in _ ⟨by omega, by omega⟩
      generalize hcn : countM ⟨50 + q, 2⟩ (j.2.2.1.take k) = n at *
      have HCN := Lib.hid hcn; clear hcn hcl
      have e1 : (0 : Int) ≤ k := by omega
      have e2 : (k : Int) < j.2.2.1.length := by omega
      have HXE := Lib.hid (show (x == ⟨50 + q, 2⟩) = ((x.f0 == 50 + q) && (x.f1 == 2)) by
        rw [Bool.eq_iff_iff, Bool.and_eq_true, beq_iff_eq, beq_iff_eq, beq_iff_eq]
        constructor
        · intro h; rw [h]; exact ⟨rfl, rfl⟩
        · intro h; cases x; simp only at h; rw [h.1, h.2])
      cases q0 : x.f0 == 50 + q
      · have HC := Lib.hid (show countM ⟨50 + q, 2⟩ (j.2.2.1.take (k + 1)) = n by rw [HCT.out, HXE.out, q0]; simp)
        go_wp2
        go_roundw
        case rel => exact ⟨k + 1, by omega, by rw [HC.out], by go_num, trivial⟩
        case measure => simp [intOf]; omega
      cases q1 : x.f1 == 2
      · have HC := Lib.hid (show countM ⟨50 + q, 2⟩ (j.2.2.1.take (k + 1)) = n by rw [HCT.out, HXE.out, q0, q1]; simp)
        go_wp2
        go_roundw
        case rel => exact ⟨k + 1, by omega, by rw [HC.out], by go_num, trivial⟩
        case measure => simp [intOf]; omega
      · have HC := Lib.hid (show countM ⟨50 + q, 2⟩ (j.2.2.1.take (k + 1)) = n + 1 by rw [HCT.out, HXE.out, q0, q1]; simp)
        go_wp2
        go_roundw
        case rel => exact ⟨k + 1, by omega, by rw [HC.out]; go_num, by go_num, trivial⟩
        case measure => simp [intOf]; omega
    · obtain rfl : k = j.2.2.1.length := by omega
      rw [List.take_length, HY.out.1]
      clear hlt hk hgj hcj hdj hlj hmj j0 j1 j2 jl hjl
      -- Join
      obtain ⟨Ak1, ck1, Ak2, ck2, hgk, hck, hdk, hlk, hmk⟩ := HS6.out.2 (g3, j.2) (by simp)
      try dsimp only at hgk hck hdk hlk hmk
      obtain ⟨k0, k1, k2, _, _, _, kl⟩ := three_cells hgk
      have HC := Lib.hid ((join_calls (50 + q) 2 j.2.1 Ak1 ck1 j.2.2.1 Ak2 ck2 j.2.2.2 _ hck hdk hlk hmk).mono (fun _ _ hz => (got_of hz : Got (joinC (50 + q) 2 j.2.1 j.2.2.1 j.2.2.2) _ _ _)))
      clear hgk hck hdk hlk hmk
      rw [← HT.out] at HC
      go_upto_region 17 with (fail)
      go_cut [20, 21] (fun vp ve W => ve = .int .i64 (t).1 ∧ ∃ gz, vp = .pointer (some ⟨gz, 0, none⟩) ∧ Aside0 (Hs w ((gz, (t).2) :: [(g3, j.2), (g0, c)]) W))
      case first =>
        go_wp2_with fail
        refine HC.out.mono ?_
        rintro e W1 ⟨A3, c3, A4, c4, rfl, ho, hp, hb⟩
        go_wp2
        go_meet
        case rel => exact ⟨rfl, _, rfl, ⟨Hs.new HS6.out hb ho hp (by rw [HY.out.2.2.2.2.1]; exact HL.out.sj)⟩⟩
      clear HC k0 k1 k2 kl
      obtain ⟨rfl, g4, rfl, HS7⟩ := hcut
      obtain ⟨Ak1, ck1, Ak2, ck2, hgk, hck, hdk, hlk, hmk⟩ := HS7.out.2 (g0, c) (by simp)
      try dsimp only at hgk hck hdk hlk hmk
      obtain ⟨k0, k1, k2, _, _, _, kl⟩ := three_cells hgk
      obtain ⟨Aj1, cj1, Aj2, cj2, hgj, hcj, hdj, hlj, hmj⟩ := HS7.out.2 (g3, j.2) (by simp)
      try dsimp only at hgj hcj hdj hlj hmj
      obtain ⟨j0, j1, j2, _, _, _, jl⟩ := three_cells hgj
      have hKc : ((j.2.1, c.2.1, j.2.2.2) : Ctl) = c := by rw [HY.out.2.2.1, HY.out.2.2.2.1]
      have h8 : Hs w ((wc.heap.size, (j.2.1, c.2.1, j.2.2.2)) :: [(g4, t.2), (g3, j.2), (g0, c)]) (wc.alloc (.cells #[.int .i64 j.2.1, .slice Ak1 c.2.1.length ck1, .slice Aj2 j.2.2.2.length cj2] 26)) :=
        Hs.new (c := (j.2.1, c.2.1, j.2.2.2)) HS7.out (Below.refl _ _) hck hdj ⟨HG.out.short.1, HL.out.sj.2⟩
      have HK := Lib.hid hKc
      have b2 : (t.1 == 1) = true := by rw [HY.out.2.2.2.2.1]; rfl
      have b3 : ((j.2.2.1.length : Int) == (c.2.1.length : Int) + 1) = true := by rw [HY.out.2.1]; simp
      have hw3 : IntKind.i64.wrap ((c.2.1.length : Int) + 1) = (c.2.1.length : Int) + 1 := IntWalk.i64_in _ ⟨by omega, by omega⟩
      have b4 : (((1 : Nat) : Int) == 1) = true := rfl
      clear hKc hgk hck hdk hlk hmk hgj hcj hdj hlj hmj
      go_upto_region 20 with (fail)
      generalize hW : wc.alloc (.cells #[.int .i64 j.2.1, .slice Ak1 c.2.1.length ck1, .slice Aj2 j.2.2.2.length cj2] 26) = W5 at h8 ⊢
      generalize wc.heap.size = g5 at h8 ⊢
      have HS8 := Lib.hid h8
      clear h8 hW k0 k1 k2 kl j0 j1 j2 jl
      obtain ⟨Ak1, ck1, Ak2, ck2, hgk, hck, hdk, hlk, hmk⟩ := HS8.out.2 (g0, c) (by simp)
      try dsimp only at hgk hck hdk hlk hmk
      obtain ⟨k0, k1, k2, _, _, _, kl⟩ := three_cells hgk
      obtain ⟨Aj1, cj1, Aj2, cj2, hgj, hcj, hdj, hlj, hmj⟩ := HS8.out.2 (g3, j.2) (by simp)
      try dsimp only at hgj hcj hdj hlj hmj
      obtain ⟨j0, j1, j2, _, _, _, jl⟩ := three_cells hgj
      obtain ⟨Al1, cl1, Al2, cl2, hgl, hcl, hdl, hll, hml⟩ := HS8.out.2 (g5, (j.2.1, c.2.1, j.2.2.2)) (by simp)
      try dsimp only at hgl hcl hdl hll hml
      obtain ⟨l0, l1, l2, _, _, _, ll⟩ := three_cells hgl
      have HQ := Lib.hid (same_is (c1 := cl1) (c2 := cl2) (d1 := ck1) (d2 := ck2) (sameK_yes HK.out) hcl hdl hck hdk)
      have HKG := Lib.hid hgj
      have HQ2 := Lib.hid (fun W hb => right_is (a := j.2) (c1 := cj1) (c2 := cj2) (W := W) HY.out.2.2.2.2.2 (Kd.C_below hcj hb) (Kd.C_below hdj hb))
      clear hgk hck hdk hlk hmk hgj hcj hdj hlj hmj hgl hcl hdl hll hml
      go_wp2_with fail
      refine HQ.out.mono ?_
      rintro e W1 ⟨rfl, hb⟩
      have HF := Lib.hid (HS8.out.below hb)
      clear k0 k1 k2 kl j0 j1 j2 jl l0 l1 l2 ll
      obtain ⟨j0, j1, j2, _, _, _, jl⟩ := three_cells (kept_on hb HKG.out)
      have HQ2b := Lib.hid (HQ2.out _ hb)
      clear hb
      go_wp2_with fail
      refine HQ2b.out.mono ?_
      rintro e W2 ⟨rfl, hb⟩
      go_wp2
      go_ret
      exact ⟨rfl, (HF.out.below hb).1⟩
end Go.Proofs.Ytdbgpakmbjhmgaa.H
