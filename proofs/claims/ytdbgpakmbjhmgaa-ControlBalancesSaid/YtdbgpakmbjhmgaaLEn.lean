/- ControlBalances. -/
import Derived.Test.YtdbgpakmbjhmgaaLEm
namespace Go.Proofs.Ytdbgpakmbjhmgaa.H
open Go.RowKit Go.Proofs.YtdbgpakmbjhmgaaW.PrintWords Go.Proofs.YtdbgpakmbjhmgaaW.PrintLast Go.Proofs.YtdbgpakmbjhmgaaW.PrintMore
set_option linter.unusedVariables false
set_option linter.unusedSimpArgs false

set_option maxHeartbeats 4000000 in
set_option maxRecDepth 100000 in
theorem balances_calls (shards bin : Int) (A : Option Addr) (cc : Nat) (raw : List S53) (w : World) (hr : Kd.C k53 w A raw.length raw) (hs : InI shards) (hb : InI bin) (hraw : ∀ x ∈ raw, InI x.f0 ∧ InI x.f1 ∧ InI x.f2) :
    Calls Try.prog 6 #[.int .i64 shards, .int .i64 bin, .slice A raw.length cc] w fun e w' => e = .returned (.bool true) ∧ Below w.heap.size w w' := by
  have HS0 := Lib.hid (Hs.start w)
  have HCO := Lib.hid (fun W (hbw : Below w.heap.size w W) => (control_calls shards bin A cc raw W (Kd.C_below hr hbw) hs hb hraw).mono (fun _ _ h => (got1R_of h : Got1R (controlC shards bin raw) _ _ _)))
  have HG := Lib.hid (good_control shards bin raw)
  generalize controlC shards bin raw = c at *
  clear hr hs hb hraw
  go_enter Try.func6, Try.ntmps6
  go_upto_region 1 with (fail)
  go_cut [7] (fun o W => o = .bool true ∧ Aside0 (Hs w [] W))
  case first =>
    go_wp2_with fail
    refine (awake_calls _).mono ?_
    rintro e W1 ⟨rfl, hb⟩
    go_wp2
    go_meet
    case rel => exact ⟨rfl, ⟨HS0.out.below hb⟩⟩
  obtain ⟨rfl, HS1⟩ := hcut
  go_upto_region 2 with (fail)
  go_cut [8] (fun p W => ∃ g, p = .pointer (some ⟨g, 0, none⟩) ∧ Aside0 (Own1 w g c W))
  case first =>
    go_wp2_with fail
    refine (HCO.out _ HS1.out.1).mono ?_
    rintro e W1 ⟨A3, c3, A4, c4, rfl, ho, hp, hb⟩
    go_wp2
    go_meet
    case rel => exact ⟨_, rfl, ⟨Nat.le_trans HS1.out.1.size hb.size, own_new ho hp HS1.out.1.size HG.out.short.bytes, below_then (below_then HS1.out.1 HS1.out.1.size hb) (Nat.le_trans HS1.out.1.size hb.size) (below_alloc (Below.refl _ _) _)⟩⟩
  obtain ⟨g0, rfl, HS2⟩ := hcut
  clear HS0 HS1 HCO
  have hm1 := HG.out.right.m1
  have hm8 := HG.out.right.m8
  have hp1 := HG.out.right.p1
  have hp8 := HG.out.right.p8
  go_wp2
  go_loopg [9] (c.2.2.length) (fun gk v9 W => ∃ (k : Nat) (x : Ctl), k ≤ c.2.2.length ∧ c.2.2.length ≤ k + gk ∧ c.2.2.length ≤ x.2.2.length ∧ x.2.2.length ≤ c.2.2.length ∧ v9 = .int .i64 k ∧ Aside0 (x = (c.1, c.2.1, zeroP k c.2.2) ∧ Own1 w g0 x W))
  case atStart => exact ⟨0, c, by omega, by omega, Nat.le_refl _, Nat.le_refl _, rfl, ⟨by simp [zeroP], HS2.out⟩⟩
  case round =>
    obtain ⟨k, x, hk1, hk2, hk3, hk4, rfl, HE⟩ := hrel
    obtain ⟨hg0, ⟨A1, c1, A2, c2, hx0, hx1, hx2, hx3⟩, hbw⟩ := HE.out.2
    obtain ⟨k0, k1, k2, _, _, _, kl⟩ := three_cells hx0
    by_cases hlt : k < c.2.2.length
    · obtain ⟨gp, cells, rfl, hgp, hcells⟩ := row_of hx2 (by omega)
      obtain ⟨q0, q1, q2, q3, q4, q5⟩ := place_cells hx2 k (by omega) (by omega)
      rw [Int.toNat_natCast] at q0 q1 q2 q3 q4 q5
      have hto := own_to hx0 hx1 hx2 hx3 (show k < x.2.2.length by omega) hcells
      have HTO := Lib.hid hto
      have HBW := Lib.hid (And.intro hg0 (And.intro hbw hgp))
      have hn1 : (0 : Int) ≤ k := by omega
      have hn2 : (k : Int) < x.2.2.length := by omega
      have hxx := HE.out.1
      have hnx : ((x.1, x.2.1, x.2.2.set k ⟨(rd_T48 x.2.2 (k : Int)).f0, (rd_T48 x.2.2 (k : Int)).f1, 0⟩) : Ctl) = (c.1, c.2.1, zeroP (k + 1) c.2.2) := by
        rw [hxx]; simp only []; rw [zeroP_step hlt]
      have HNX := Lib.hid hnx
      clear hto hx0 hx1 hx2 hx3 hcells hg0 hgp hbw hxx hnx
      generalize rd_T48 x.2.2 (k : Int) = y at *
      go_wp2
      go_roundg (gk - 1)
      case measure => omega
      case rel => exact ⟨k + 1, (x.1, x.2.1, x.2.2.set k ⟨y.f0, y.f1, 0⟩), by omega, by omega, by show _ ≤ (List.set _ _ _).length; rw [List.length_set]; omega, by show (List.set _ _ _).length ≤ _; rw [List.length_set]; omega, by go_num, ⟨HNX.out, HBW.out.1, HTO.out, below_set HBW.out.2.1 HBW.out.2.2⟩⟩
    · obtain rfl : k = c.2.2.length := by omega
      have hxr : x = restC c := by rw [HE.out.1, zeroP_all]; rfl
      have HO := Lib.hid HE.out.2
      have hmv := moved_start HG.out
      rw [← hxr] at hmv
      have HMV := Lib.hid hmv
      clear hmv HE hxr hx0 hx1 hx2 hx3 hg0 hbw
      have hz1 : decide (c.2.2.length < x.2.2.length) = false := decide_eq_false (by omega)
      clear hlt hk1 hk2 HS2
      go_wp2
      go_loopg [10] (x.2.2.length) (fun gk v10 W => ∃ (i : Nat) (y : Ctl), i ≤ x.2.2.length ∧ x.2.2.length ≤ i + gk ∧ v10 = .int .i64 i ∧ Aside0 (Moved x i y ∧ Own1 w g0 y W))
      case atStart => exact ⟨0, x, Nat.zero_le _, by omega, rfl, ⟨HMV.out, HO.out⟩⟩
      case round =>
        clear k0 k1 k2 kl hk3 hk4
        obtain ⟨i, y, hi1, hi2, rfl, HE⟩ := hrel
        have HM := Lib.hid HE.out.1
        have HO2 := Lib.hid HE.out.2
        have HS3 := Lib.hid HE.out.2.hs
        clear HE HO HMV
        obtain ⟨Ak1, ck1, Ak2, ck2, hgk, hck, hdk, hlk, hmk⟩ := HS3.out.2 (g0, y) (by simp)
        try dsimp only at hgk hck hdk hlk hmk
        obtain ⟨k0, k1, k2, _, _, _, kl⟩ := three_cells hgk
        have hyl := HM.out.len
        have hle : (i : Int) ≤ y.2.2.length := by omega
        have hy8 := HM.out.good.right.p8
        have hyl1 : y.2.2.length ≤ x.2.2.length := by omega
        have hyl2 : x.2.2.length ≤ y.2.2.length := by omega
        have HYP := Lib.hid (And.intro hyl1 hyl2)
        obtain ⟨b, hb⟩ : ∃ b, b = balanceC y.1 y.2.1 y.2.2 := ⟨_, rfl⟩
        have htl := told HM.out.good.right
        have hev := fun h => even_out HM.out h
        have HC := Lib.hid (balance_calls y.1 Ak1 ck1 y.2.1 Ak2 ck2 y.2.2 wr hck hdk)
        rw [← hb] at htl hev HC
        have HT := Lib.hid htl
        have HEV := Lib.hid hev
        clear htl hev hb hyl hyl1 hyl2 hgk hck hdk hlk hmk
        go_upto_region 10 with (fail)
        go_cut [11, 12, 13] (fun v11 v12 v13 W => v11 = .int .i64 b.1 ∧ v12 = .int .i64 b.2.1 ∧ v13 = .bool b.2.2 ∧ Aside0 (Own1 w g0 y W))
        case first =>
          go_wp2_with fail
          refine HC.out.mono ?_
          rintro e W1 ⟨rfl, hb⟩
          go_wp2
          go_meet
          case rel => first | exact ⟨rfl, rfl, rfl, ⟨HO2.out.below hb⟩⟩ | ((repeat apply Exists.intro); exact ⟨⟨rfl, rfl, rfl, ⟨HO2.out.below hb⟩⟩, rfl⟩)
        clear HC k0 k1 k2 kl HO2 HS3
        obtain ⟨rfl, rfl, rfl, HO3⟩ := hcut
        have HS4 := Lib.hid HO3.out.hs
        cases hbi : b.2.2
        · have HV := Lib.hid (HEV.out hbi)
          have HST := Lib.hid HM.out.still
          have HGD := Lib.hid HM.out.good.right
          have hp8 := hy8
          have hm8 := HM.out.good.right.m8
          clear hbi HT HEV HO3 hle hi1 hi2
          obtain ⟨Ak1, ck1, Ak2, ck2, hgk, hck, hdk, hlk, hmk⟩ := HS4.out.2 (g0, y) (by simp)
          try dsimp only at hgk hck hdk hlk hmk
          obtain ⟨k0, k1, k2, _, _, _, kl⟩ := three_cells hgk
          clear hgk hck hdk hlk hmk
          go_wp2
          go_loopg [18, 19, 20] (y.2.1.length) (fun gk v18 v19 v20 W => ∃ m : Nat, m ≤ y.2.1.length ∧ y.2.1.length ≤ m + gk ∧ v18 = .int .i64 (loN (loadC y.2.2) (y.2.1.take m)) ∧ v19 = .int .i64 (hiN (loadC y.2.2) (y.2.1.take m)) ∧ v20 = .int .i64 m ∧ Aside0 (Hs w [(g0, y)] W))
          case atStart => exact ⟨0, Nat.zero_le _, by omega, rfl, rfl, rfl, ⟨HS4.out⟩⟩
          case round =>
            clear k0 k1 k2 kl
            obtain ⟨m, hm1, hm2, rfl, rfl, rfl, HE⟩ := hrel
            obtain ⟨Ak1, ck1, Ak2, ck2, hgk, hck, hdk, hlk, hmk⟩ := HE.out.2 (g0, y) (by simp)
            try dsimp only at hgk hck hdk hlk hmk
            obtain ⟨k0, k1, k2, _, _, _, kl⟩ := three_cells hgk
            by_cases hlt : m < y.2.1.length
            · have hmem := rd_memM (ms := y.2.1) (s := (m : Int)) (by omega) (by omega)
              have hnz := names_pos HGD.out hmem
              have HLO := Lib.hid (lo_take (loadC y.2.2) y.2.1 m hlt)
              have HHI := Lib.hid (hi_take (loadC y.2.2) y.2.1 m hlt)
              have HOW := Lib.hid (ownerN_eq HST.out hnz)
              obtain ⟨nm, hnm⟩ : ∃ nm, nm = (rd_T45 y.2.1 (m : Int)).f0 := ⟨_, rfl⟩
              rw [← hnm] at HLO HHI HOW
              have HNM := Lib.hid hnm
              clear hnm hmem hnz hgk hck hdk hlk hmk
              generalize loN (loadC y.2.2) (y.2.1.take m) = lo at *
              generalize hiN (loadC y.2.2) (y.2.1.take m) = hi at *
              obtain ⟨go, hgo1, hgo2⟩ : ∃ go, go ≤ gk ∧ gk ≤ go := ⟨gk, Nat.le_refl _, Nat.le_refl _⟩
              go_wp2
              go_loopg [21, 22] (y.2.2.length) (fun gk v21 v22 W => ∃ j : Nat, j ≤ y.2.2.length ∧ y.2.2.length ≤ j + gk ∧ v21 = .int .i64 (ownerN (y.2.2.take j) nm) ∧ v22 = .int .i64 j ∧ Aside0 (Hs w [(g0, y)] W))
              case atStart => exact ⟨0, Nat.zero_le _, by omega, rfl, rfl, ⟨HE.out⟩⟩
              case round =>
                clear k0 k1 k2 kl
                obtain ⟨j, hj1, hj2, rfl, rfl, HE2⟩ := hrel
                obtain ⟨Ak1, ck1, Ak2, ck2, hgk, hck, hdk, hlk, hmk⟩ := HE2.out.2 (g0, y) (by simp)
                try dsimp only at hgk hck hdk hlk hmk
                obtain ⟨k0, k1, k2, _, _, _, kl⟩ := three_cells hgk
                by_cases hjt : j < y.2.2.length
                · obtain ⟨ad, hA, h0, h1⟩ := at_T45 hck m (by omega) (by omega)
                  subst hA
                  obtain ⟨ae, hA, p0, p1, p2⟩ := at_T48 hdk j (by omega) (by omega)
                  subst hA
                  rw [Int.toNat_natCast] at h0 h1 p0 p1 p2
                  rw [← HNM.out] at h0
                  have HTK := Lib.hid (ownerN_take y.2.2 j hjt nm)
                  have hcl := ownerN_le (y.2.2.take j) nm
                  rw [List.length_take] at hcl
                  generalize rd_T48 y.2.2 (j : Int) = q at *
                  generalize ownerN (y.2.2.take j) nm = cn at *
                  have hwc : IntKind.i64.wrap (cn + 1) = cn + 1 := IntWalk.i64_in _ ⟨by omega, by omega⟩
                  have e1 : (0 : Int) ≤ j := by omega
                  have e2 : (j : Int) < y.2.2.length := by omega
                  have e3 : (0 : Int) ≤ m := by omega
                  have e4 : (m : Int) < y.2.1.length := by omega
                  clear h1 p1 p2 hcl hgk hck hdk hlk hmk
                  cases z : q.f0 == nm
                  · have HI := Lib.hid (HTK.out.trans (by rw [z]; simp) : ownerN (y.2.2.take (j + 1)) nm = cn)
                    go_wp2_with fail
                    go_quiet (fail)
                    go_wp2
                    go_roundg (gk - 1)
                    case measure => omega
                    case rel => first | exact ⟨j + 1, by omega, by omega, congrArg (Value.int .i64) HI.out.symm, by go_num, ⟨HE2.out.below (pw_below_drewN (Below.refl _ _) _)⟩⟩ | ((repeat apply Exists.intro); exact ⟨⟨j + 1, by omega, by omega, congrArg (Value.int .i64) HI.out.symm, by go_num, ⟨HE2.out.below (pw_below_drewN (Below.refl _ _) _)⟩⟩, rfl⟩)
                  · have HI := Lib.hid (HTK.out.trans (by rw [z]; simp) : ownerN (y.2.2.take (j + 1)) nm = cn + 1)
                    go_wp2_with fail
                    go_quiet (fail)
                    go_wp2
                    go_roundg (gk - 1)
                    case measure => omega
                    case rel => first | exact ⟨j + 1, by omega, by omega, congrArg (Value.int .i64) HI.out.symm, by go_num, ⟨HE2.out.below (pw_below_drewN (Below.refl _ _) _)⟩⟩ | ((repeat apply Exists.intro); exact ⟨⟨j + 1, by omega, by omega, congrArg (Value.int .i64) HI.out.symm, by go_num, ⟨HE2.out.below (pw_below_drewN (Below.refl _ _) _)⟩⟩, rfl⟩)
                · obtain rfl : j = y.2.2.length := by omega
                  rw [List.take_length, HOW.out]
                  clear hgk hck hdk hlk hmk
                  generalize loadC y.2.2 nm = ld at *
                  go_wp2
                  all_goals
                    go_roundg (go - 1)
                    case measure => omega
                    case rel => first | exact ⟨m + 1, by omega, by omega, (by rw [HLO.out]; exact congrArg (Value.int .i64) (by omega)), (by rw [HHI.out]; exact congrArg (Value.int .i64) (by omega)), by go_num, ⟨HE2.out⟩⟩ | ((repeat apply Exists.intro); exact ⟨⟨m + 1, by omega, by omega, (by rw [HLO.out]; exact congrArg (Value.int .i64) (by omega)), (by rw [HHI.out]; exact congrArg (Value.int .i64) (by omega)), by go_num, ⟨HE2.out⟩⟩, rfl⟩)
            · obtain rfl : m = y.2.1.length := by omega
              rw [List.take_length]
              have hlr := lo_range (F := loadC y.2.2) y.2.1 (fun m _ => (loadC_le y.2.2 m.f0).1)
              have hhr := hi_range (F := loadC y.2.2) y.2.1 (fun m _ => by have := (loadC_le y.2.2 m.f0).2; omega)
              have hv := HV.out
              generalize loN (loadC y.2.2) y.2.1 = lo at *
              generalize hiN (loadC y.2.2) y.2.1 = hi at *
              have hwl : IntKind.i64.wrap (hi - lo) = hi - lo := IntWalk.i64_in _ ⟨by omega, by omega⟩
              have hd : decide (hi - lo ≤ 1) = true := decide_eq_true hv
              clear hgk hck hdk hlk hmk
              go_wp2
              go_ret
              exact ⟨rfl, HE.out.1⟩
        have HTT := Lib.hid (HT.out.1 hbi)
        clear hbi HT HEV
        generalize b.1 = s at *
        generalize b.2.1 = t at *
        obtain ⟨p, hp⟩ : ∃ r, r = planC s t y.1 y.2.1 y.2.2 := ⟨_, rfl⟩
        obtain ⟨d, hd⟩ : ∃ r, r = commitC s p.2.1 p.2.2.1 p.2.2.2 := ⟨_, rfl⟩
        have HL := Lib.hid (step_law HM.out HTT.out p d hp hd)
        have HP := Lib.hid hp
        have HD := Lib.hid hd
        clear hp hd
        -- Plan
        obtain ⟨Ak1, ck1, Ak2, ck2, hgk, hck, hdk, hlk, hmk⟩ := HS4.out.2 (g0, y) (by simp)
        try dsimp only at hgk hck hdk hlk hmk
        obtain ⟨k0, k1, k2, _, _, _, kl⟩ := three_cells hgk
        have HC := Lib.hid ((plan_calls s t y.1 Ak1 ck1 y.2.1 Ak2 ck2 y.2.2 _ hck hdk hlk hmk).mono (fun _ _ hz => (got_of hz : Got (planC s t y.1 y.2.1 y.2.2) _ _ _)))
        clear hgk hck hdk hlk hmk
        rw [← HP.out] at HC
        go_upto_region 12 with (fail)
        go_cut [14, 15] (fun vp ve W => ve = .int .i64 (p).1 ∧ ∃ gz, vp = .pointer (some ⟨gz, 0, none⟩) ∧ Aside0 (Own1 w g0 y W ∧ Hs w ((gz, (p).2) :: [(g0, y)]) W))
        case first =>
          go_wp2_with fail
          refine HC.out.mono ?_
          rintro e W1 ⟨A3, c3, A4, c4, rfl, ho, hp, hb⟩
          go_wp2
          go_meet
          case rel => first | exact ⟨rfl, _, rfl, ⟨(HO3.out.below hb).below (below_alloc (Below.refl _ _) _), Hs.new HS4.out hb ho hp HL.out.sp⟩⟩ | ((repeat apply Exists.intro); exact ⟨⟨rfl, _, rfl, ⟨(HO3.out.below hb).below (below_alloc (Below.refl _ _) _), Hs.new HS4.out hb ho hp HL.out.sp⟩⟩, rfl⟩)
        clear HC k0 k1 k2 kl
        obtain ⟨rfl, g1, rfl, HSB⟩ := hcut
        have HO5 := Lib.hid HSB.out.1
        have HS5 := Lib.hid HSB.out.2
        clear HSB HO3 HS4
        obtain ⟨Aj1, cj1, Aj2, cj2, hgj, hcj, hdj, hlj, hmj⟩ := HS5.out.2 (g1, p.2) (by simp)
        try dsimp only at hgj hcj hdj hlj hmj
        obtain ⟨j0, j1, j2, _, _, _, jl⟩ := three_cells hgj
        have HC := Lib.hid ((commit_calls s p.2.1 Aj1 cj1 p.2.2.1 Aj2 cj2 p.2.2.2 wc hcj hdj hlj hmj).mono (fun _ _ hz => (gotR_of hz : GotR (commitC s p.2.1 p.2.2.1 p.2.2.2) _ _ _)))
        rw [← HD.out] at HC
        clear hgj hcj hdj hlj hmj
        have hgl : g0 < wc.heap.size := by
          obtain ⟨_, _, _, _, hq, _⟩ := HO5.out.2.1
          exact blk_lt hq
        have HGL := Lib.hid hgl; clear hgl
        go_upto_region 13 with (fail)
        go_cut [16, 17] (fun vp ve W => ve = .int .i64 d.1 ∧ ∃ gz, vp = .pointer (some ⟨gz, 0, none⟩) ∧ Aside0 (Own1 w g0 y W ∧ OwnC w.heap.size gz d.2 W ∧ g0 ≠ gz))
        case first =>
          go_wp2_with fail
          refine HC.out.mono ?_
          rintro e W1 ⟨A3, c3, A4, c4, rfl, ho, hp, hb⟩
          go_wp2
          go_meet
          case rel => first | exact ⟨rfl, _, rfl, ⟨(HO5.out.below hb).below (below_alloc (Below.refl _ _) _), own_new ho hp HO5.out.2.2.size HL.out.sd.bytes, Nat.ne_of_lt (Nat.lt_of_lt_of_le HGL.out hb.size)⟩⟩ | ((repeat apply Exists.intro); exact ⟨⟨rfl, _, rfl, ⟨(HO5.out.below hb).below (below_alloc (Below.refl _ _) _), own_new ho hp HO5.out.2.2.size HL.out.sd.bytes, Nat.ne_of_lt (Nat.lt_of_lt_of_le HGL.out hb.size)⟩⟩, rfl⟩)
        clear HC j0 j1 j2 jl HO5 HS5
        obtain ⟨rfl, g2, rfl, HX⟩ := hcut
        obtain ⟨hg0, ⟨A1, c1, A2, c2, hx0, hx1, hx2, hx3⟩, hbw⟩ := HX.out.1
        obtain ⟨B1, d1, B2, d2, hy0, hy1, hy2, hy3⟩ := HX.out.2.1
        obtain ⟨k0, k1, k2, k3, k4, k5, kl⟩ := three_cells hx0
        obtain ⟨j0, j1, j2, _, _, _, jl⟩ := three_cells hy0
        have hne := HX.out.2.2
        have hst := own_store (b1 := w.heap.size) ⟨A1, c1, A2, c2, hx0, hx1, hx2, hx3⟩ hy1 hy2 (Nat.le_refl _) hy3
        have HSTO := Lib.hid hst
        have HBW := Lib.hid (And.intro hg0 hbw)
        have b1 : (p.1 != 0) = false := by rw [HL.out.ep]; rfl
        have b2 : (d.1 != 0) = false := by rw [HL.out.ed]; rfl
        have hmore := HL.out.more
        have b3 : ((i : Int) == (y.2.2.length : Int)) = false := by have := HYP.out.1; have := HYP.out.2; simp; omega
        clear hst hx0 hx1 hx2 hx3 hy0 hy1 hy2 hy3 hg0 hbw hne
        go_wp2
        go_roundg (gk - 1)
        case measure => omega
        case rel => first | exact ⟨i + 1, d.2, by omega, by omega, by go_num, ⟨HL.out.next, HBW.out.1, HSTO.out, below_set (below_set (below_set HBW.out.2 HBW.out.1) HBW.out.1) HBW.out.1⟩⟩ | ((repeat apply Exists.intro); exact ⟨⟨i + 1, d.2, by omega, by omega, by go_num, ⟨HL.out.next, HBW.out.1, HSTO.out, below_set (below_set (below_set HBW.out.2 HBW.out.1) HBW.out.1) HBW.out.1⟩⟩, rfl⟩)
end Go.Proofs.Ytdbgpakmbjhmgaa.H
