/- ControlGate. -/
import Derived.Test.YtdbgpakmbjhmgaaLEm
namespace Go.Proofs.Ytdbgpakmbjhmgaa.H
open Go.RowKit Go.Proofs.YtdbgpakmbjhmgaaW.PrintWords Go.Proofs.YtdbgpakmbjhmgaaW.PrintLast Go.Proofs.YtdbgpakmbjhmgaaW.PrintMore
set_option linter.unusedVariables false
set_option linter.unusedSimpArgs false

set_option maxHeartbeats 4000000 in
set_option maxRecDepth 100000 in
theorem gate_calls (shards bin : Int) (A : Option Addr) (cc : Nat) (raw : List S53) (name : Int) (w : World) (hr : Kd.C k53 w A raw.length raw) (hs : InI shards) (hb : InI bin) (hraw : ∀ x ∈ raw, InI x.f0 ∧ InI x.f1 ∧ InI x.f2) (hname : InI name) :
    Calls Try.prog 4 #[.int .i64 shards, .int .i64 bin, .slice A raw.length cc, .int .i64 name] w fun e w' => e = .returned (.bool true) ∧ Below w.heap.size w w' := by
  have HS0 := Lib.hid (Hs.start w)
  have HCO := Lib.hid (fun W (hbw : Below w.heap.size w W) => (control_calls shards bin A cc raw W (Kd.C_below hr hbw) hs hb hraw).mono (fun _ _ h => (got1_of h : Got1 (controlC shards bin raw) _ _ _)))
  have HG := Lib.hid (good_control shards bin raw)
  generalize controlC shards bin raw = c at *
  clear hr hs hb hraw
  go_enter Try.func4, Try.ntmps4
  go_upto_region 1 with (fail)
  go_cut [9] (fun o W => o = .bool true ∧ Aside0 (Hs w [] W))
  case first =>
    go_wp2_with fail
    refine (awake_calls _).mono ?_
    rintro e W1 ⟨rfl, hb⟩
    go_wp2
    go_meet
    case rel => exact ⟨rfl, ⟨HS0.out.below hb⟩⟩
  obtain ⟨rfl, HS1⟩ := hcut
  go_upto_region 2 with (fail)
  go_cut [10] (fun p W => ∃ g, p = .pointer (some ⟨g, 0, none⟩) ∧ Aside0 (Hs w [(g, c)] W))
  case first =>
    go_wp2_with fail
    refine (HCO.out _ HS1.out.1).mono ?_
    rintro e W1 ⟨A3, c3, A4, c4, rfl, ho, hp, hb⟩
    go_wp2
    go_meet
    case rel => exact ⟨_, rfl, ⟨Hs.new HS1.out hb ho hp HG.out.short⟩⟩
  obtain ⟨g0, rfl, HS2⟩ := hcut
  clear HS0 HS1 HCO
  have hm1 := HG.out.right.m1
  have hm8 := HG.out.right.m8
  have hp8 := HG.out.right.p8
  have HPK1 := Lib.hid (fun w => pick_calls name c.2.1.length hname (by omega) (by omega) w)
  have HPK2 := Lib.hid (fun w => pick_calls name 50 hname (by omega) (by omega) w)
  obtain ⟨i0, i1⟩ := pickI_bound name c.2.1.length (by omega)
  obtain ⟨q0, q1⟩ := pickI_bound name 50 (by omega)
  generalize pickI name c.2.1.length = i at *
  generalize pickI name 50 = q at *
  have hmem := rd_memM i0 i1
  obtain ⟨h, hh⟩ : ∃ h, h = (rd_T45 c.2.1 i).f0 := ⟨_, rfl⟩
  have hhas : hasM c.2.1 h = true := (hasM_iff _ _).2 ⟨_, hmem, hh.symm⟩
  obtain ⟨f, hf⟩ : ∃ r, r = finC c.1 c.2.1 c.2.2 := ⟨_, rfl⟩
  obtain ⟨g, hg⟩ : ∃ r, r = reportC h 1 f.2.1 f.2.2.1 f.2.2.2 := ⟨_, rfl⟩
  obtain ⟨n, hn⟩ : ∃ r, r = joinC (50 + q) 1 f.2.1 f.2.2.1 f.2.2.2 := ⟨_, rfl⟩
  have HL := Lib.hid (gate_law HG.out hhas (show 50 ≤ 50 + q by omega) (by omega) f g n hf hg hn)
  have HF := Lib.hid hf
  have HGR := Lib.hid hg
  have HN := Lib.hid hn
  have HH := Lib.hid hh
  clear hf hg hn hmem hhas hh
  obtain ⟨Ak1, ck1, Ak2, ck2, hgk, hck, hdk, hlk, hmk⟩ := HS2.out.2 (g0, c) (by simp)
  try dsimp only at hgk hck hdk hlk hmk
  obtain ⟨k0, k1, k2, _, _, _, kl⟩ := three_cells hgk
  go_wp2
  go_loopw [11, 12] (fun v11 v12 W => ∃ k : Nat, k ≤ c.2.1.length ∧ v11 = .bool (allTwo (c.2.1.take k)) ∧ v12 = .int .i64 k ∧ W = wc) (fun _ v _ => c.2.1.length - (intOf v).toNat)
  case atStart => exact ⟨0, Nat.zero_le _, rfl, rfl, rfl⟩
  case round =>
    obtain ⟨k, hk, rfl, rfl, hwr⟩ := hrel
    obtain rfl : wc = wr := hwr.symm
    by_cases hlt : k < c.2.1.length
    · obtain ⟨ad, hA, h0, h1⟩ := at_T45 hck k (by omega) (by omega)
      subst hA
      rw [Int.toNat_natCast] at h0 h1
      have hat : allTwo (c.2.1.take (k + 1)) = (allTwo (c.2.1.take k) && ((rd_T45 c.2.1 k).f1 == 2)) := by
        rw [rd_get c.2.1 (by omega) (by omega)]
        unfold allTwo
        rw [List.take_add_one, List.getElem?_eq_getElem hlt, Option.toList_some, List.all_append]
        simp
      have HAT := Lib.hid hat; clear hat
      generalize rd_T45 c.2.1 k = x at *
      have e1 : (0 : Int) ≤ k := by omega
      have e2 : (k : Int) < c.2.1.length := by omega
      cases ha : allTwo (c.2.1.take k)
      · have HAT2 := Lib.hid (HAT.out.trans (by rw [ha]; rfl) : allTwo (c.2.1.take (k + 1)) = false)
        clear HAT ha
        go_wp2
        go_roundw
        case rel => exact ⟨k + 1, by omega, by rw [HAT2.out], by go_num, trivial⟩
        case measure => simp [intOf]; omega
      · have HAT2 := Lib.hid (HAT.out.trans (by rw [ha]; rfl) : allTwo (c.2.1.take (k + 1)) = (x.f1 == 2))
        clear HAT ha
        go_wp2
        go_roundw
        case rel => exact ⟨k + 1, by omega, by rw [HAT2.out], by go_num, trivial⟩
        case measure => simp [intOf]; omega
    · obtain rfl : k = c.2.1.length := by omega
      rw [List.take_length]
      clear hlt hk hgk hck hdk hlk hmk k0 k1 k2 kl
      have HGT := Lib.hid HL.out.grant
      have HLV := Lib.hid HL.out.level
      generalize allTwo c.2.1 = al at *
      -- Finalise
      obtain ⟨Ak1, ck1, Ak2, ck2, hgk, hck, hdk, hlk, hmk⟩ := HS2.out.2 (g0, c) (by simp)
      try dsimp only at hgk hck hdk hlk hmk
      obtain ⟨k0, k1, k2, _, _, _, kl⟩ := three_cells hgk
      have HC := Lib.hid ((finalise_calls  c.1 Ak1 ck1 c.2.1 Ak2 ck2 c.2.2 _ hck hdk hlk hmk).mono (fun _ _ hz => (got_of hz : Got (finC  c.1 c.2.1 c.2.2) _ _ _)))
      clear hgk hck hdk hlk hmk
      rw [← HF.out] at HC
      go_upto_region 8 with (fail)
      go_cut [13, 14] (fun vp ve W => ve = .int .i64 (f).1 ∧ ∃ gz, vp = .pointer (some ⟨gz, 0, none⟩) ∧ Aside0 (Hs w ((gz, (f).2) :: [(g0, c)]) W))
      case first =>
        go_wp2_with fail
        refine HC.out.mono ?_
        rintro e W1 ⟨A3, c3, A4, c4, rfl, ho, hp, hb⟩
        go_wp2
        go_meet
        case rel => exact ⟨rfl, _, rfl, ⟨Hs.new HS2.out hb ho hp HL.out.sf⟩⟩
      clear HC k0 k1 k2 kl
      obtain ⟨rfl, g1, rfl, HS3⟩ := hcut
      go_upto_region 9 with (fail)
      go_cut [67] (fun v W => v = .bool false ∧ Aside0 (Hs w [(g1, f.2), (g0, c)] W))
      case first =>
        have hz : (al = true ∧ (f.1 == 0) = true ∧ (f.2.1 == 2) = true) ∨ (al = false ∧ (f.1 == 0) = false ∧ (f.2.1 == 2) = true ∧ (c.1 == 2) = true) ∨ (al = false ∧ (f.1 == 0) = false ∧ (f.2.1 == 2) = false ∧ (c.1 == 2) = false) := by
          have h1 := HGT.out
          have h2 := HLV.out
          cases al
          · right
            cases z : c.1 == 2
            · right; exact ⟨rfl, h1, by rw [h2, z]; rfl, rfl⟩
            · left; exact ⟨rfl, h1, by rw [h2, z]; rfl, rfl⟩
          · left; exact ⟨rfl, h1, by rw [h2]; rfl⟩
        rcases hz with ⟨rfl, z1, z2⟩ | ⟨rfl, z1, z2, z3⟩ | ⟨rfl, z1, z2, z3⟩
        all_goals
          obtain ⟨Ak1, ck1, Ak2, ck2, hgk, hck, hdk, hlk, hmk⟩ := HS3.out.2 (g0, c) (by simp)
          try dsimp only at hgk hck hdk hlk hmk
          obtain ⟨k0, k1, k2, _, _, _, kl⟩ := three_cells hgk
          obtain ⟨Al1, cl1, Al2, cl2, hgl, hcl, hdl, hll, hml⟩ := HS3.out.2 (g1, f.2) (by simp)
          try dsimp only at hgl hcl hdl hll hml
          obtain ⟨l0, l1, l2, _, _, _, ll⟩ := three_cells hgl
          have HQS0 := Lib.hid (fun W hb => right_is (a := f.2) (c1 := cl1) (c2 := cl2) (W := W) HL.out.right (Kd.C_below hcl hb) (Kd.C_below hdl hb))
          have HGSk := Lib.hid hgk
          have HGSl := Lib.hid hgl
          have HBS0 := Lib.hid (Below.refl wc.heap.size wc)
          clear hgk hck hdk hlk hmk
          clear hgl hcl hdl hll hml
          go_wp2_with fail
          refine (HQS0.out _ HBS0.out).mono ?_
          rintro e WS0 ⟨rfl, hb⟩
          have HBS1 := Lib.hid (below_then HBS0.out HBS0.out.size hb)
          clear hb
          clear k0 k1 k2 kl l0 l1 l2 ll
          have HFS := Lib.hid (HS3.out.below HBS1.out)
          go_wp2
          go_meet
          case rel => exact ⟨rfl, ⟨HFS.out⟩⟩
      obtain ⟨rfl, HS4⟩ := hcut
      obtain ⟨Ak1, ck1, Ak2, ck2, hgk, hck, hdk, hlk, hmk⟩ := HS4.out.2 (g0, c) (by simp)
      try dsimp only at hgk hck hdk hlk hmk
      obtain ⟨k0, k1, k2, _, _, _, kl⟩ := three_cells hgk
      obtain ⟨ad, hA, m0, m1⟩ := at_T45 hck i i0 i1
      subst hA
      rw [← HH.out] at m0
      clear m1 hgk hck hdk hlk hmk
      go_upto_region 11 with (fail)
      go_cut [15] (fun v W => v = .int .i64 h ∧ Aside0 (Hs w [(g1, f.2), (g0, c)] W))
      case first =>
        go_quiet ((go_at_call 14; exact Calls.quiet_of_same ((HPK1.out _).mono fun _ _ hz => ⟨hz.1, hz.2.symm⟩)))
        go_wp2
        go_meet
        case rel => exact ⟨rfl, ⟨HS4.out.below (pw_below_drewN (Below.refl _ _) _)⟩⟩
      clear k0 k1 k2 kl m0 HPK1 HS4 HS3 HS2
      obtain ⟨rfl, HS5⟩ := hcut
      -- Report
      obtain ⟨Ak1, ck1, Ak2, ck2, hgk, hck, hdk, hlk, hmk⟩ := HS5.out.2 (g1, f.2) (by simp)
      try dsimp only at hgk hck hdk hlk hmk
      obtain ⟨k0, k1, k2, _, _, _, kl⟩ := three_cells hgk
      have HC := Lib.hid ((report_calls h 1 f.2.1 Ak1 ck1 f.2.2.1 Ak2 ck2 f.2.2.2 _ hck hdk hlk hmk).mono (fun _ _ hz => (got_of hz : Got (reportC h 1 f.2.1 f.2.2.1 f.2.2.2) _ _ _)))
      clear hgk hck hdk hlk hmk
      rw [← HGR.out] at HC
      go_upto_region 12 with (fail)
      go_cut [16, 17] (fun vp ve W => ve = .int .i64 (g).1 ∧ ∃ gz, vp = .pointer (some ⟨gz, 0, none⟩) ∧ Aside0 (Hs w ((gz, (g).2) :: [(g1, f.2), (g0, c)]) W))
      case first =>
        go_wp2_with fail
        refine HC.out.mono ?_
        rintro e W1 ⟨A3, c3, A4, c4, rfl, ho, hp, hb⟩
        go_wp2
        go_meet
        case rel => exact ⟨rfl, _, rfl, ⟨Hs.new HS5.out hb ho hp HL.out.sg⟩⟩
      clear HC k0 k1 k2 kl
      obtain ⟨rfl, g2, rfl, HS6⟩ := hcut
      obtain ⟨Al1, cl1, Al2, cl2, hgl, hcl, hdl, hll, hml⟩ := HS6.out.2 (g1, f.2) (by simp)
      try dsimp only at hgl hcl hdl hll hml
      obtain ⟨l0, l1, l2, _, _, _, ll⟩ := three_cells hgl
      have HC := Lib.hid (fun W hb => (join_calls (50 + q) 1 f.2.1 Al1 cl1 f.2.2.1 Al2 cl2 f.2.2.2 W (Kd.C_below hcl hb) (Kd.C_below hdl hb) hll hml).mono (fun _ _ hz => (gotR_of hz : GotR (joinC (50 + q) 1 f.2.1 f.2.2.1 f.2.2.2) _ _ _)))
      rw [← HN.out] at HC
      clear hgl hcl hdl hll hml
      go_upto_region 13 with (fail)
      go_cut [18, 19] (fun vp ve W => ve = .int .i64 n.1 ∧ ∃ gz, vp = .pointer (some ⟨gz, 0, none⟩) ∧ Aside0 (Hs w ((gz, n.2) :: [(g2, g.2), (g1, f.2), (g0, c)]) W))
      case first =>
        have hw : IntKind.i64.wrap (50 + q) = 50 + q := IntWalk.i64_in _ ⟨by omega, by omega⟩
        have HSH := Lib.hid HL.out.sn
        go_region_with (first
          | (go_at_call 14; refine (HPK2.out _).mono ?_; rintro e W' ⟨rfl, rfl⟩)
          | (go_at_call 22; refine (HC.out _ ?hbx).mono ?_; (case hbx => first | exact below_drew (Below.refl _ _) | exact below_drew (below_alloc (Below.refl _ _) _) | exact below_alloc (below_drew (Below.refl _ _)) _); rintro e W1 ⟨A3, c3, A4, c4, rfl, ho, hp, hb⟩; (first | (have hn1 := kept_new_d hb; obtain ⟨n10, n11, n12, n13, n14, n15, n16⟩ := three_cells hn1; (try simp only [World.heap_drew] at n10 n11 n12 n13 n14 n15 n16)) | (have hn1 := kept_new hb; obtain ⟨n10, n11, n12, n13, n14, n15, n16⟩ := three_cells hn1; (try simp only [World.heap_drew] at n10 n11 n12 n13 n14 n15 n16)) | skip)))
        all_goals
          go_wp2_with fail
          go_meet
          first
            | exact ⟨rfl, _, rfl, ⟨Hs.new HS6.out.drew hb (Kd.R_reads' ho).2.2 (Kd.R_reads' hp).2.2 HSH.out⟩⟩
            | exact ⟨rfl, _, rfl, ⟨Hs.newAt HS6.out (show Below (wc.alloc _).heap.size (wc.alloc _) W1 from ⟨hb.os, hb.tape, hb.output, hb.size, hb.block⟩) ho hp HSH.out.bytes⟩⟩
      clear HC l0 l1 l2 ll
      obtain ⟨rfl, g3, rfl, HS7⟩ := hcut
      by_cases h2 : f.2.1 = 2
      · have b0 : (f.2.1 == 2) = true := by simpa using h2
        obtain ⟨y1, y2, y3, y4⟩ := HL.out.two h2
        have b1 : (g.1 == 22) = true := by simpa using y1
        have b2 : (n.1 == 22) = true := by simpa using y2
        have HY3 := Lib.hid y3
        have HY4 := Lib.hid y4
        clear h2 y1 y2 y3 y4
        obtain ⟨Al1, cl1, Al2, cl2, hgl, hcl, hdl, hll, hml⟩ := HS7.out.2 (g1, f.2) (by simp)
        try dsimp only at hgl hcl hdl hll hml
        obtain ⟨l0, l1, l2, _, _, _, ll⟩ := three_cells hgl
        obtain ⟨Aj1, cj1, Aj2, cj2, hgj, hcj, hdj, hlj, hmj⟩ := HS7.out.2 (g2, g.2) (by simp)
        try dsimp only at hgj hcj hdj hlj hmj
        obtain ⟨j0, j1, j2, _, _, _, jl⟩ := three_cells hgj
        obtain ⟨Ai1, ci1, Ai2, ci2, hgi, hci, hdi, hli, hmi⟩ := HS7.out.2 (g3, n.2) (by simp)
        try dsimp only at hgi hci hdi hli hmi
        obtain ⟨i0, i1, i2, _, _, _, il⟩ := three_cells hgi
        obtain ⟨Ak1, ck1, Ak2, ck2, hgk, hck, hdk, hlk, hmk⟩ := HS7.out.2 (g0, c) (by simp)
        try dsimp only at hgk hck hdk hlk hmk
        obtain ⟨k0, k1, k2, _, _, _, kl⟩ := three_cells hgk
        have HQS0 := Lib.hid (fun W hb => same_is (c1 := cj1) (c2 := cj2) (d1 := cl1) (d2 := cl2) (W := W) (sameK_yes HY3.out) (Kd.C_below hcj hb) (Kd.C_below hdj hb) (Kd.C_below hcl hb) (Kd.C_below hdl hb))
        have HQS1 := Lib.hid (fun W hb => same_is (c1 := ci1) (c2 := ci2) (d1 := cl1) (d2 := cl2) (W := W) (sameK_yes HY4.out) (Kd.C_below hci hb) (Kd.C_below hdi hb) (Kd.C_below hcl hb) (Kd.C_below hdl hb))
        have HGSl := Lib.hid hgl
        have HGSj := Lib.hid hgj
        have HGSi := Lib.hid hgi
        have HGSk := Lib.hid hgk
        have HBS0 := Lib.hid (Below.refl wc.heap.size wc)
        clear hgl hcl hdl hll hml
        clear hgj hcj hdj hlj hmj
        clear hgi hci hdi hli hmi
        clear hgk hck hdk hlk hmk
        go_wp2_with fail
        refine (HQS0.out _ HBS0.out).mono ?_
        rintro e WS0 ⟨rfl, hb⟩
        have HBS1 := Lib.hid (below_then HBS0.out HBS0.out.size hb)
        clear hb
        clear l0 l1 l2 ll j0 j1 j2 jl i0 i1 i2 il k0 k1 k2 kl
        obtain ⟨l0, l1, l2, _, _, _, ll⟩ := three_cells (kept_on HBS1.out HGSl.out)
        obtain ⟨j0, j1, j2, _, _, _, jl⟩ := three_cells (kept_on HBS1.out HGSj.out)
        obtain ⟨i0, i1, i2, _, _, _, il⟩ := three_cells (kept_on HBS1.out HGSi.out)
        obtain ⟨k0, k1, k2, _, _, _, kl⟩ := three_cells (kept_on HBS1.out HGSk.out)
        go_wp2_with fail
        refine (HQS1.out _ HBS1.out).mono ?_
        rintro e WS1 ⟨rfl, hb⟩
        have HBS2 := Lib.hid (below_then HBS1.out HBS1.out.size hb)
        clear hb
        clear l0 l1 l2 ll j0 j1 j2 jl i0 i1 i2 il k0 k1 k2 kl
        have HFS := Lib.hid (HS7.out.below HBS2.out)
        go_wp2
        go_ret
        exact ⟨rfl, HFS.out.1⟩
      · have b0 : (f.2.1 == 2) = false := by simpa using h2
        obtain ⟨y1, y2, y3, y4⟩ := HL.out.one h2
        have b1 : (g.1 == 0) = true := by simpa using y1
        have HY3 := Lib.hid y3
        have HY4 := Lib.hid y4
        have hz : ((n.1 == 0) = true) ∨ ((n.1 == 0) = false ∧ (n.1 == 50) = true ∧ ((c.2.1.length : Int) == 8) = true) := by
          rcases y2 with e | ⟨e, e2⟩
          · left; rw [e]; rfl
          · right; rw [e, e2]; exact ⟨rfl, rfl, rfl⟩
        clear h2 y1 y2 y3 y4
        rcases hz with z1 | ⟨z1, z2, z3⟩
        all_goals
          obtain ⟨Al1, cl1, Al2, cl2, hgl, hcl, hdl, hll, hml⟩ := HS7.out.2 (g1, f.2) (by simp)
          try dsimp only at hgl hcl hdl hll hml
          obtain ⟨l0, l1, l2, _, _, _, ll⟩ := three_cells hgl
          obtain ⟨Aj1, cj1, Aj2, cj2, hgj, hcj, hdj, hlj, hmj⟩ := HS7.out.2 (g2, g.2) (by simp)
          try dsimp only at hgj hcj hdj hlj hmj
          obtain ⟨j0, j1, j2, _, _, _, jl⟩ := three_cells hgj
          obtain ⟨Ai1, ci1, Ai2, ci2, hgi, hci, hdi, hli, hmi⟩ := HS7.out.2 (g3, n.2) (by simp)
          try dsimp only at hgi hci hdi hli hmi
          obtain ⟨i0, i1, i2, _, _, _, il⟩ := three_cells hgi
          obtain ⟨Ak1, ck1, Ak2, ck2, hgk, hck, hdk, hlk, hmk⟩ := HS7.out.2 (g0, c) (by simp)
          try dsimp only at hgk hck hdk hlk hmk
          obtain ⟨k0, k1, k2, _, _, _, kl⟩ := three_cells hgk
          have HQS0 := Lib.hid (fun W hb => right_is (a := g.2) (c1 := cj1) (c2 := cj2) (W := W) HY3.out (Kd.C_below hcj hb) (Kd.C_below hdj hb))
          have HQS1 := Lib.hid (fun W hb => right_is (a := n.2) (c1 := ci1) (c2 := ci2) (W := W) HY4.out (Kd.C_below hci hb) (Kd.C_below hdi hb))
          have HGSl := Lib.hid hgl
          have HGSj := Lib.hid hgj
          have HGSi := Lib.hid hgi
          have HGSk := Lib.hid hgk
          have HBS0 := Lib.hid (Below.refl wc.heap.size wc)
          clear hgl hcl hdl hll hml
          clear hgj hcj hdj hlj hmj
          clear hgi hci hdi hli hmi
          clear hgk hck hdk hlk hmk
          go_wp2_with fail
          refine (HQS0.out _ HBS0.out).mono ?_
          rintro e WS0 ⟨rfl, hb⟩
          have HBS1 := Lib.hid (below_then HBS0.out HBS0.out.size hb)
          clear hb
          clear l0 l1 l2 ll j0 j1 j2 jl i0 i1 i2 il k0 k1 k2 kl
          obtain ⟨l0, l1, l2, _, _, _, ll⟩ := three_cells (kept_on HBS1.out HGSl.out)
          obtain ⟨j0, j1, j2, _, _, _, jl⟩ := three_cells (kept_on HBS1.out HGSj.out)
          obtain ⟨i0, i1, i2, _, _, _, il⟩ := three_cells (kept_on HBS1.out HGSi.out)
          obtain ⟨k0, k1, k2, _, _, _, kl⟩ := three_cells (kept_on HBS1.out HGSk.out)
          go_wp2_with fail
          refine (HQS1.out _ HBS1.out).mono ?_
          rintro e WS1 ⟨rfl, hb⟩
          have HBS2 := Lib.hid (below_then HBS1.out HBS1.out.size hb)
          clear hb
          clear l0 l1 l2 ll j0 j1 j2 jl i0 i1 i2 il k0 k1 k2 kl
          have HFS := Lib.hid (HS7.out.below HBS2.out)
          go_wp2
          go_ret
          exact ⟨rfl, HFS.out.1⟩
end Go.Proofs.Ytdbgpakmbjhmgaa.H
