/- ControlBack. -/
import Derived.Test.YtdbgpakmbjhmgaaK6
namespace Go.Proofs.Ytdbgpakmbjhmgaa.H
open Go.RowKit Go.Proofs.YtdbgpakmbjhmgaaW.PrintWords Go.Proofs.YtdbgpakmbjhmgaaW.PrintLast Go.Proofs.YtdbgpakmbjhmgaaW.PrintMore
set_option linter.unusedVariables false
set_option linter.unusedSimpArgs false

set_option maxHeartbeats 4000000 in
set_option maxRecDepth 100000 in
theorem back_calls (shards bin : Int) (A : Option Addr) (cc : Nat) (raw : List S53) (which : Int) (w : World) (hr : Kd.C k53 w A raw.length raw) (hs : InI shards) (hb : InI bin) (hraw : ∀ x ∈ raw, InI x.f0 ∧ InI x.f1 ∧ InI x.f2) (hwhich : InI which) :
    Calls Try.prog 8 #[.int .i64 shards, .int .i64 bin, .slice A raw.length cc, .int .i64 which] w fun e w' => e = .returned (.bool true) ∧ Below w.heap.size w w' := by
  have HS0 := Lib.hid (Hs.start w)
  have HCO := Lib.hid (fun W (hbw : Below w.heap.size w W) => (control_calls shards bin A cc raw W (Kd.C_below hr hbw) hs hb hraw).mono (fun _ _ h => (got1_of h : Got1 (controlC shards bin raw) _ _ _)))
  have HG := Lib.hid (good_control shards bin raw)
  generalize controlC shards bin raw = c at *
  clear hr hs hb hraw
  go_enter Try.func8, Try.ntmps8
  go_upto_region 1 with (fail)
  go_cut [9] (fun o W => o = .bool true ∧ Aside0 (Hs w [] W))
  case first =>
    go_wp2_with fail
    refine (awake_calls _).mono ?_
    rintro e W1 ⟨rfl, hb⟩
    go_wp2
    go_meet
    case rel => exact ⟨rfl, ⟨HS0.out.below hb⟩⟩
  obtain ⟨rfl, HS1⟩ := hcut
  go_upto_region 2 with (fail)
  go_cut [10] (fun p W => ∃ g, p = .pointer (some ⟨g, 0, none⟩) ∧ Aside0 (Hs w [(g, c)] W))
  case first =>
    go_wp2_with fail
    refine (HCO.out _ HS1.out.1).mono ?_
    rintro e W1 ⟨A3, c3, A4, c4, rfl, ho, hp, hb⟩
    go_wp2
    go_meet
    case rel => exact ⟨_, rfl, ⟨Hs.new HS1.out hb ho hp HG.out.short⟩⟩
  obtain ⟨g0, rfl, HS2⟩ := hcut
  clear HS0 HS1 HCO
  have hm1 := HG.out.right.m1
  have hm8 := HG.out.right.m8
  have HPK := Lib.hid (fun w => pick_calls which c.2.1.length hwhich (by omega) (by omega) w)
  obtain ⟨i0, i1⟩ := pickI_bound which c.2.1.length (by omega)
  generalize pickI which c.2.1.length = i at *
  obtain ⟨Ak1, ck1, Ak2, ck2, hgk, hck, hdk, hlk, hmk⟩ := HS2.out.2 (g0, c) (by simp)
  obtain ⟨k0, k1, k2, _, _, _, kl⟩ := three_cells hgk
  obtain ⟨ad, hA, m0, m1⟩ := at_T45 hck i i0 i1
  subst hA
  obtain ⟨m, hm⟩ : ∃ m, m = rd_T45 c.2.1 i := ⟨_, rfl⟩
  rw [← hm] at m0 m1
  have mm0 := fun o => ((below_alloc (below_drew (Below.refl _ _)) o).cell (World.block_lt_of_cell? _ _ m0)).trans m0
  have mm1 := fun o => ((below_alloc (below_drew (Below.refl _ _)) o).cell (World.block_lt_of_cell? _ _ m1)).trans m1
  have HL := Lib.hid (back_law HG.out i0 i1 m hm _ _ rfl rfl)
  have HLL := Lib.hid (And.intro hlk hmk)
  clear hm hgk hck hdk hlk hmk
  have hkp : ∀ W W2 : World, (W.cell? ⟨g0, 1, none⟩ = some (.slice (some ad) c.2.1.length ck1) ∧ W.cell? (ad.add (i.toNat * 2)) = some (.int .i64 m.f0) ∧ W.cell? ⟨(ad.add (i.toNat * 2)).block, (ad.add (i.toNat * 2)).off + 1, none⟩ = some (.int .i64 m.f1) ∧ Aside0 (Hs w [(g0, c)] W)) → Below W.heap.size W W2 → (W2.cell? ⟨g0, 1, none⟩ = some (.slice (some ad) c.2.1.length ck1) ∧ W2.cell? (ad.add (i.toNat * 2)) = some (.int .i64 m.f0) ∧ W2.cell? ⟨(ad.add (i.toNat * 2)).block, (ad.add (i.toNat * 2)).off + 1, none⟩ = some (.int .i64 m.f1) ∧ Aside0 (Hs w [(g0, c)] W2)) := fun W W2 h hb => ⟨kept_cell hb h.1, kept_cell hb h.2.1, kept_cell hb h.2.2.1, ⟨h.2.2.2.out.below hb⟩⟩
  have HKP := Lib.hid hkp; clear hkp
  go_upto_region 3 with (fail)
  go_cut [11] (fun p W => ∃ g, p = .pointer (some ⟨g, 0, none⟩) ∧ Aside0 (W.heap[g]? = some (.cells #[.int .i64 m.f0, .int .i64 m.f1] 45 (0, 0)) ∧ Hs w [(g0, c)] W))
  case first =>
    have hs0 := And.intro k1 (And.intro m0 (And.intro m1 HS2))
    go_region_held3 (fun W => W.cell? ⟨g0, 1, none⟩ = some (.slice (some ad) c.2.1.length ck1) ∧ W.cell? (ad.add (i.toNat * 2)) = some (.int .i64 m.f0) ∧ W.cell? ⟨(ad.add (i.toNat * 2)).block, (ad.add (i.toNat * 2)).off + 1, none⟩ = some (.int .i64 m.f1) ∧ Aside0 (Hs w [(g0, c)] W))
      (first | assumption | exact HKP.out _ _ (by assumption) (below_drew (Below.refl _ _)) | exact HKP.out _ _ (by assumption) (below_alloc (Below.refl _ _) _) | exact HKP.out _ _ (by assumption) (below_drew (below_alloc (Below.refl _ _) _)) | exact HKP.out _ _ (by assumption) (below_set (below_set (below_alloc (Below.refl _ _) _) (Nat.le_refl _)) (Nat.le_refl _)) | go_keep)
      (first | (go_at_call 14; refine (HPK.out _).mono ?_; rintro e W' ⟨rfl, rfl⟩))
    all_goals
      go_wp2_with fail
      go_meet
      exact ⟨_, rfl, ⟨new_at (by simp) _, HS2.out.drew.alloc _⟩⟩
  clear k0 k1 k2 kl m0 m1 HKP HS2
  obtain ⟨g1, rfl, HM⟩ := hcut
  obtain ⟨m0, m1, _, _, ml⟩ := cells2 HM.out.1
  have HSA := Lib.hid HM.out.2
  obtain ⟨r1, hr1⟩ : ∃ r, r = reportC m.f0 (3 - m.f1) c.1 c.2.1 c.2.2 := ⟨_, rfl⟩
  rw [← hr1] at HL
  obtain ⟨r2, hr2⟩ : ∃ r, r = reportC m.f0 m.f1 r1.2.1 r1.2.2.1 r1.2.2.2 := ⟨_, rfl⟩
  rw [← hr2] at HL
  have HR1 := Lib.hid hr1; clear hr1
  have HR2 := Lib.hid hr2; clear hr2
  have hbin := HL.out.bin
  have hw : IntKind.i64.wrap (3 - m.f1) = 3 - m.f1 := IntWalk.i64_in _ ⟨by omega, by omega⟩
  have HBIN := Lib.hid hbin; clear hbin
  -- Report
  obtain ⟨Ak1, ck1, Ak2, ck2, hgk, hck, hdk, hlk, hmk⟩ := HSA.out.2 (g0, c) (by simp)
  obtain ⟨k0, k1, k2, _, _, _, kl⟩ := three_cells hgk
  have HC := Lib.hid ((report_calls m.f0 (3 - m.f1) c.1 Ak1 ck1 c.2.1 Ak2 ck2 c.2.2 _ hck hdk hlk hmk).mono (fun _ _ h => (got_of h : Got (reportC m.f0 (3 - m.f1) c.1 c.2.1 c.2.2) _ _ _)))
  clear hgk hck hdk hlk hmk
  rw [← HR1.out] at HC
  go_upto_region 4 with (fail)
  go_cut [12, 13] (fun p e W => e = .int .i64 (r1).1 ∧ ∃ g, p = .pointer (some ⟨g, 0, none⟩) ∧ Aside0 (W.heap[g1]? = some (.cells #[.int .i64 m.f0, .int .i64 m.f1] 45 (0, 0)) ∧ Hs w ((g, (r1).2) :: [(g0, c)]) W))
  case first =>
    go_wp2_with fail
    refine HC.out.mono ?_
    rintro e W1 ⟨A3, c3, A4, c4, rfl, ho, hp, hb⟩
    go_wp2
    go_meet
    case rel => exact ⟨rfl, _, rfl, ⟨alloc_on (kept_on hb HM.out.1) _, Hs.new HSA.out hb ho hp HL.out.s1⟩⟩
  clear HC k0 k1 k2 kl
  obtain ⟨rfl, g2, rfl, HSB⟩ := hcut
  clear hw m0 m1 ml HM HSA
  obtain ⟨m0, m1, _, _, ml⟩ := cells2 HSB.out.1
  have HSC := Lib.hid HSB.out.2
  obtain ⟨Ak1, ck1, Ak2, ck2, hgk, hck, hdk, hlk, hmk⟩ := HSC.out.2 (g0, c) (by simp)
  obtain ⟨k0, k1, k2, _, _, _, kl⟩ := three_cells hgk
  obtain ⟨Aj1, cj1, Aj2, cj2, hgj, hcj, hdj, hlj, hmj⟩ := HSC.out.2 (g2, r1.2) (by simp)
  obtain ⟨j0, j1, j2, _, _, _, jl⟩ := three_cells hgj
  by_cases h2 : c.1 = 2
  · obtain ⟨q1, q2⟩ := HL.out.two h2
    have b1 : (r1.1 == 22) = true := by simpa using q1
    have b2 : (c.1 == 2) = true := by simpa using h2
    have HQ := Lib.hid (same_is (c1 := cj1) (c2 := cj2) (d1 := ck1) (d2 := ck2) (sameK_yes q2) hcj hdj hck hdk)
    clear h2 q1 q2 hgk hck hdk hlk hmk hgj hcj hdj hlj hmj
    go_wp2_with fail
    refine HQ.out.mono ?_
    rintro e W1 ⟨rfl, hb⟩
    go_wp2
    go_ret
    exact ⟨rfl, (HSC.out.below hb).1⟩
  obtain ⟨q1, q2, q3, q4⟩ := HL.out.one h2
  have b1 : (r1.1 == 0) = true := by simpa using q1
  have b2 : (c.1 == 2) = false := by simpa using h2
  have b3 : (r2.1 == 0) = true := by simpa using q2
  have HQ3 := Lib.hid q3
  have HQ4 := Lib.hid q4
  clear h2 q1 q2 q3 q4 hgk hck hdk hlk hmk hgj hcj hdj hlj hmj j0 j1 j2 jl
  go_upto_region 7 with (fail)
  clear k0 k1 k2 kl
  -- Report
  obtain ⟨Aj1, cj1, Aj2, cj2, hgj, hcj, hdj, hlj, hmj⟩ := HSC.out.2 (g2, r1.2) (by simp)
  obtain ⟨j0, j1, j2, _, _, _, jl⟩ := three_cells hgj
  have HC := Lib.hid ((report_calls m.f0 m.f1 r1.2.1 Aj1 cj1 r1.2.2.1 Aj2 cj2 r1.2.2.2 _ hcj hdj hlj hmj).mono (fun _ _ h => (got_of h : Got (reportC m.f0 m.f1 r1.2.1 r1.2.2.1 r1.2.2.2) _ _ _)))
  clear hgj hcj hdj hlj hmj
  rw [← HR2.out] at HC
  go_upto_region 7 with (fail)
  go_cut [14, 15] (fun p e W => e = .int .i64 (r2).1 ∧ ∃ g, p = .pointer (some ⟨g, 0, none⟩) ∧ Aside0 (Hs w ((g, (r2).2) :: [(g2, r1.2), (g0, c)]) W))
  case first =>
    go_wp2_with fail
    refine HC.out.mono ?_
    rintro e W1 ⟨A3, c3, A4, c4, rfl, ho, hp, hb⟩
    go_wp2
    go_meet
    case rel => exact ⟨rfl, _, rfl, ⟨Hs.new HSC.out hb ho hp HL.out.s2⟩⟩
  clear HC j0 j1 j2 jl
  obtain ⟨rfl, g3, rfl, HSD⟩ := hcut
  obtain ⟨Ak1, ck1, Ak2, ck2, hgk, hck, hdk, hlk, hmk⟩ := HSD.out.2 (g0, c) (by simp)
  obtain ⟨k0, k1, k2, _, _, _, kl⟩ := three_cells hgk
  obtain ⟨Aj1, cj1, Aj2, cj2, hgj, hcj, hdj, hlj, hmj⟩ := HSD.out.2 (g2, r1.2) (by simp)
  obtain ⟨j0, j1, j2, _, _, _, jl⟩ := three_cells hgj
  obtain ⟨Al1, cl1, Al2, cl2, hgl, hcl, hdl, hll, hml⟩ := HSD.out.2 (g3, r2.2) (by simp)
  obtain ⟨l0, l1, l2, _, _, _, ll⟩ := three_cells hgl
  have HQ := Lib.hid (same_is (c1 := cl1) (c2 := cl2) (d1 := ck1) (d2 := ck2) (sameK_yes HQ3.out) hcl hdl hck hdk)
  have HQ2 := Lib.hid (fun W hb => same_is (c1 := cj1) (c2 := cj2) (d1 := ck1) (d2 := ck2) (W := W) (sameK_no HQ4.out) (Kd.C_below hcj hb) (Kd.C_below hdj hb) (Kd.C_below hck hb) (Kd.C_below hdk hb))
  have HKG := Lib.hid (And.intro hgk hgj)
  clear hgk hck hdk hlk hmk hgj hcj hdj hlj hmj hgl hcl hdl hll hml
  go_wp2_with fail
  refine HQ.out.mono ?_
  rintro e W1 ⟨rfl, hb⟩
  have HF := Lib.hid (HSD.out.below hb)
  clear k0 k1 k2 kl j0 j1 j2 jl l0 l1 l2 ll
  obtain ⟨k0, k1, k2, _, _, _, kl⟩ := three_cells (kept_on hb HKG.out.1)
  obtain ⟨j0, j1, j2, _, _, _, jl⟩ := three_cells (kept_on hb HKG.out.2)
  have HQ2b := Lib.hid (HQ2.out _ hb)
  clear hb
  go_wp2_with fail
  refine HQ2b.out.mono ?_
  rintro e W2 ⟨rfl, hb⟩
  go_wp2
  go_ret
  exact ⟨rfl, (HF.out.below hb).1⟩
end Go.Proofs.Ytdbgpakmbjhmgaa.H
