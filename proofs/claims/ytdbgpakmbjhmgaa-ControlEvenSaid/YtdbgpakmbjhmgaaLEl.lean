/- ControlEven. -/
import Derived.Test.YtdbgpakmbjhmgaaLEh
namespace Go.Proofs.Ytdbgpakmbjhmgaa.H
open Go.RowKit Go.Proofs.YtdbgpakmbjhmgaaW.PrintWords Go.Proofs.YtdbgpakmbjhmgaaW.PrintLast Go.Proofs.YtdbgpakmbjhmgaaW.PrintMore
set_option linter.unusedVariables false
set_option linter.unusedSimpArgs false

set_option maxHeartbeats 4000000 in
set_option maxRecDepth 100000 in
theorem even_calls (shards bin : Int) (A : Option Addr) (cc : Nat) (raw : List S53) (w : World) (hr : Kd.C k53 w A raw.length raw) (hs : InI shards) (hb : InI bin) (hraw : ∀ x ∈ raw, InI x.f0 ∧ InI x.f1 ∧ InI x.f2) :
    Calls Try.prog 9 #[.int .i64 shards, .int .i64 bin, .slice A raw.length cc] w fun e w' => e = .returned (.bool true) ∧ Below w.heap.size w w' := by
  have HS0 := Lib.hid (Hs.start w)
  have HCO := Lib.hid (fun W (hbw : Below w.heap.size w W) => (control_calls shards bin A cc raw W (Kd.C_below hr hbw) hs hb hraw).mono (fun _ _ h => (got1_of h : Got1 (controlC shards bin raw) _ _ _)))
  have HG := Lib.hid (good_control shards bin raw)
  generalize controlC shards bin raw = c at *
  clear hr hs hb hraw
  go_enter Try.func9, Try.ntmps9
  go_upto_region 1 with (fail)
  go_cut [7] (fun o W => o = .bool true ∧ Aside0 (Hs w [] W))
  case first =>
    go_wp2_with fail
    refine (awake_calls _).mono ?_
    rintro e W1 ⟨rfl, hb⟩
    go_wp2
    go_meet
    case rel => exact ⟨rfl, ⟨HS0.out.below hb⟩⟩
  obtain ⟨rfl, HS1⟩ := hcut
  go_upto_region 2 with (fail)
  go_cut [8] (fun p W => ∃ g, p = .pointer (some ⟨g, 0, none⟩) ∧ Aside0 (Hs w [(g, c)] W))
  case first =>
    go_wp2_with fail
    refine (HCO.out _ HS1.out.1).mono ?_
    rintro e W1 ⟨A3, c3, A4, c4, rfl, ho, hp, hb⟩
    go_wp2
    go_meet
    case rel => exact ⟨_, rfl, ⟨Hs.new HS1.out hb ho hp HG.out.short⟩⟩
  obtain ⟨g0, rfl, HS2⟩ := hcut
  clear HS0 HS1 HCO
  have hm8 := HG.out.right.m8
  have hp1 := HG.out.right.p1
  have hp8 := HG.out.right.p8
  obtain ⟨b, hb⟩ : ∃ b, b = balanceC c.1 c.2.1 c.2.2 := ⟨_, rfl⟩
  have ht := told HG.out.right
  rw [← hb] at ht
  have HT := Lib.hid ht
  have HBL := Lib.hid hb
  clear ht hb
  obtain ⟨Ak1, ck1, Ak2, ck2, hgk, hck, hdk, hlk, hmk⟩ := HS2.out.2 (g0, c) (by simp)
  try dsimp only at hgk hck hdk hlk hmk
  obtain ⟨k0, k1, k2, _, _, _, kl⟩ := three_cells hgk
  have HC := Lib.hid (balance_calls c.1 Ak1 ck1 c.2.1 Ak2 ck2 c.2.2 wc hck hdk)
  rw [← HBL.out] at HC
  clear hgk hck hdk hlk hmk
  go_upto_region 3 with (fail)
  go_cut [9, 10, 11] (fun x y z W => x = .int .i64 b.1 ∧ y = .int .i64 b.2.1 ∧ z = .bool b.2.2 ∧ Aside0 (Hs w [(g0, c)] W))
  case first =>
    go_wp2_with fail
    refine HC.out.mono ?_
    rintro e W1 ⟨rfl, hb⟩
    go_wp2
    go_meet
    case rel => exact ⟨rfl, rfl, rfl, ⟨HS2.out.below hb⟩⟩
  clear HC k0 k1 k2 kl
  obtain ⟨rfl, rfl, rfl, HS3⟩ := hcut
  cases hbi : b.2.2
  · obtain ⟨e1, e2, _⟩ := HT.out.2 hbi
    rw [e1, e2]
    clear hbi e1 e2
    go_wp2
    go_ret
    exact ⟨rfl, HS3.out.1⟩
  have HTT := Lib.hid (HT.out.1 hbi)
  clear hbi HT HBL
  generalize b.1 = s at *
  generalize b.2.1 = t at *
  have s0 := HTT.out.s0
  have s1 := HTT.out.s1
  obtain ⟨a, ha⟩ : ∃ r, r = planC s t c.1 c.2.1 c.2.2 := ⟨_, rfl⟩
  obtain ⟨d, hd⟩ : ∃ r, r = cancelC s a.2.1 a.2.2.1 a.2.2.2 := ⟨_, rfl⟩
  have HL := Lib.hid (even_law HG.out (by decide) HTT.out a d ha hd)
  have hsa : Short a.2 := by rw [ha]; exact (good_plan HG.out s0).short
  have hsd : Short d.2 := by rw [hd]; exact (good_cancel (by rw [ha]; exact good_plan HG.out s0 : Good 30 a.2) s0).short
  have HA := Lib.hid ha
  have HD := Lib.hid hd
  have HSA := Lib.hid hsa
  have HSD := Lib.hid hsd
  clear ha hd hsa hsd
  have HPK := Lib.hid (fun w => pick_calls s c.2.2.length (⟨by omega, by omega⟩ : InI s) (by omega) (by omega) w)
  rw [pickI_id s0 s1] at HPK
  obtain ⟨Ak1, ck1, Ak2, ck2, hgk, hck, hdk, hlk, hmk⟩ := HS3.out.2 (g0, c) (by simp)
  try dsimp only at hgk hck hdk hlk hmk
  obtain ⟨k0, k1, k2, _, _, _, kl⟩ := three_cells hgk
  obtain ⟨ad, hA, m0, m1, m2⟩ := at_T48 hdk s s0 s1
  subst hA
  generalize rd_T48 c.2.2 s = p at *
  clear hgk hck hdk hlk hmk
  have hkp : ∀ W W2 : World, (W.cell? ⟨g0, 2, none⟩ = some (.slice (some ad) c.2.2.length ck2) ∧ W.cell? (ad.add (s.toNat * 3)) = some (.int .i64 p.f0) ∧ W.cell? ⟨(ad.add (s.toNat * 3)).block, (ad.add (s.toNat * 3)).off + 1, none⟩ = some (.int .i64 p.f1) ∧ W.cell? ⟨(ad.add (s.toNat * 3)).block, (ad.add (s.toNat * 3)).off + 2, none⟩ = some (.int .i64 p.f2) ∧ Aside0 (Hs w [(g0, c)] W)) → Below W.heap.size W W2 → (W2.cell? ⟨g0, 2, none⟩ = some (.slice (some ad) c.2.2.length ck2) ∧ W2.cell? (ad.add (s.toNat * 3)) = some (.int .i64 p.f0) ∧ W2.cell? ⟨(ad.add (s.toNat * 3)).block, (ad.add (s.toNat * 3)).off + 1, none⟩ = some (.int .i64 p.f1) ∧ W2.cell? ⟨(ad.add (s.toNat * 3)).block, (ad.add (s.toNat * 3)).off + 2, none⟩ = some (.int .i64 p.f2) ∧ Aside0 (Hs w [(g0, c)] W2)) := fun W W2 h hb => ⟨kept_cell hb h.1, kept_cell hb h.2.1, kept_cell hb h.2.2.1, kept_cell hb h.2.2.2.1, ⟨h.2.2.2.2.out.below hb⟩⟩
  have HKP := Lib.hid hkp; clear hkp
  go_upto_region 6 with (fail)
  go_cut [12] (fun p' W => ∃ g, p' = .pointer (some ⟨g, 0, none⟩) ∧ Aside0 (W.heap[g]? = some (.cells #[.int .i64 p.f0, .int .i64 p.f1, .int .i64 p.f2] 48 (0, 0)) ∧ Hs w [(g0, c)] W))
  case first =>
    have hs0 := And.intro k2 (And.intro m0 (And.intro m1 (And.intro m2 HS3)))
    go_region_held3 (fun W => W.cell? ⟨g0, 2, none⟩ = some (.slice (some ad) c.2.2.length ck2) ∧ W.cell? (ad.add (s.toNat * 3)) = some (.int .i64 p.f0) ∧ W.cell? ⟨(ad.add (s.toNat * 3)).block, (ad.add (s.toNat * 3)).off + 1, none⟩ = some (.int .i64 p.f1) ∧ W.cell? ⟨(ad.add (s.toNat * 3)).block, (ad.add (s.toNat * 3)).off + 2, none⟩ = some (.int .i64 p.f2) ∧ Aside0 (Hs w [(g0, c)] W))
      (first | assumption | exact HKP.out _ _ (by assumption) (below_drew (Below.refl _ _)) | exact HKP.out _ _ (by assumption) (below_alloc (Below.refl _ _) _) | exact HKP.out _ _ (by assumption) (below_drew (below_alloc (Below.refl _ _) _)) | go_keep)
      (first | (go_at_call 14; refine (HPK.out _).mono ?_; rintro e W' ⟨rfl, rfl⟩))
    all_goals
      go_wp2_with fail
      go_meet
      exact ⟨_, rfl, ⟨new_at (by simp) _, HS3.out.drew.alloc _⟩⟩
  clear k0 k1 k2 kl m0 m1 m2 HKP HS3 HPK
  obtain ⟨g1, rfl, HM⟩ := hcut
  have HS4 := Lib.hid HM.out.2
  have HM1 := Lib.hid HM.out.1
  -- Plan
  obtain ⟨Ak1, ck1, Ak2, ck2, hgk, hck, hdk, hlk, hmk⟩ := HS4.out.2 (g0, c) (by simp)
  try dsimp only at hgk hck hdk hlk hmk
  obtain ⟨k0, k1, k2, _, _, _, kl⟩ := three_cells hgk
  have HC := Lib.hid ((plan_calls s t c.1 Ak1 ck1 c.2.1 Ak2 ck2 c.2.2 _ hck hdk hlk hmk).mono (fun _ _ hz => (got_of hz : Got (planC s t c.1 c.2.1 c.2.2) _ _ _)))
  clear hgk hck hdk hlk hmk
  rw [← HA.out] at HC
  go_upto_region 7 with (fail)
  go_cut [13, 14] (fun vp ve W => ve = .int .i64 (a).1 ∧ ∃ gz, vp = .pointer (some ⟨gz, 0, none⟩) ∧ Aside0 (W.heap[g1]? = some (.cells #[.int .i64 p.f0, .int .i64 p.f1, .int .i64 p.f2] 48 (0, 0)) ∧ Hs w ((gz, (a).2) :: [(g0, c)]) W))
  case first =>
    go_wp2_with fail
    refine HC.out.mono ?_
    rintro e W1 ⟨A3, c3, A4, c4, rfl, ho, hp, hb⟩
    go_wp2
    go_meet
    case rel => exact ⟨rfl, _, rfl, ⟨alloc_on (kept_on hb HM1.out) _, Hs.new HS4.out hb ho hp HSA.out⟩⟩
  clear HC k0 k1 k2 kl
  obtain ⟨rfl, g2, rfl, HSB⟩ := hcut
  have HM2 := Lib.hid HSB.out.1
  have HS5 := Lib.hid HSB.out.2
  -- Cancel
  obtain ⟨Ak1, ck1, Ak2, ck2, hgk, hck, hdk, hlk, hmk⟩ := HS5.out.2 (g2, a.2) (by simp)
  try dsimp only at hgk hck hdk hlk hmk
  obtain ⟨k0, k1, k2, _, _, _, kl⟩ := three_cells hgk
  have HC := Lib.hid ((cancel_calls s a.2.1 Ak1 ck1 a.2.2.1 Ak2 ck2 a.2.2.2 _ hck hdk hlk hmk).mono (fun _ _ hz => (got_of hz : Got (cancelC s a.2.1 a.2.2.1 a.2.2.2) _ _ _)))
  clear hgk hck hdk hlk hmk
  rw [← HD.out] at HC
  go_upto_region 8 with (fail)
  go_cut [15, 16] (fun vp ve W => ve = .int .i64 (d).1 ∧ ∃ gz, vp = .pointer (some ⟨gz, 0, none⟩) ∧ Aside0 (W.heap[g1]? = some (.cells #[.int .i64 p.f0, .int .i64 p.f1, .int .i64 p.f2] 48 (0, 0)) ∧ Hs w ((gz, (d).2) :: [(g2, a.2), (g0, c)]) W))
  case first =>
    go_wp2_with fail
    refine HC.out.mono ?_
    rintro e W1 ⟨A3, c3, A4, c4, rfl, ho, hp, hb⟩
    go_wp2
    go_meet
    case rel => exact ⟨rfl, _, rfl, ⟨alloc_on (kept_on hb HM2.out) _, Hs.new HS5.out hb ho hp HSD.out⟩⟩
  clear HC k0 k1 k2 kl
  obtain ⟨rfl, g3, rfl, HSC⟩ := hcut
  have HS6 := Lib.hid HSC.out.2
  obtain ⟨p0, p1, p2, _, _, _, pl⟩ := cells3 HSC.out.1
  obtain ⟨Ak1, ck1, Ak2, ck2, hgk, hck, hdk, hlk, hmk⟩ := HS6.out.2 (g0, c) (by simp)
  try dsimp only at hgk hck hdk hlk hmk
  obtain ⟨k0, k1, k2, _, _, _, kl⟩ := three_cells hgk
  obtain ⟨Al1, cl1, Al2, cl2, hgl, hcl, hdl, hll, hml⟩ := HS6.out.2 (g2, a.2) (by simp)
  try dsimp only at hgl hcl hdl hll hml
  obtain ⟨l0, l1, l2, _, _, _, ll⟩ := three_cells hgl
  obtain ⟨Ai1, ci1, Ai2, ci2, hgi, hci, hdi, hli, hmi⟩ := HS6.out.2 (g3, d.2) (by simp)
  try dsimp only at hgi hci hdi hli hmi
  obtain ⟨i0, i1, i2, _, _, _, il⟩ := three_cells hgi
  have hkp : ∀ W W2 : World, (W.cell? ⟨g0, 0, none⟩ = some (.int .i64 c.1) ∧ W.cell? ⟨g0, 1, none⟩ = some (.slice Ak1 c.2.1.length ck1) ∧ W.cell? ⟨g0, 2, none⟩ = some (.slice Ak2 c.2.2.length ck2) ∧ W.cell? ⟨g2, 0, none⟩ = some (.int .i64 a.2.1) ∧ W.cell? ⟨g2, 1, none⟩ = some (.slice Al1 a.2.2.1.length cl1) ∧ W.cell? ⟨g2, 2, none⟩ = some (.slice Al2 a.2.2.2.length cl2) ∧ W.cell? ⟨g3, 0, none⟩ = some (.int .i64 d.2.1) ∧ W.cell? ⟨g3, 1, none⟩ = some (.slice Ai1 d.2.2.1.length ci1) ∧ W.cell? ⟨g3, 2, none⟩ = some (.slice Ai2 d.2.2.2.length ci2) ∧ W.cell? ⟨g1, 0, none⟩ = some (.int .i64 p.f0) ∧ W.cell? ⟨g1, 2, none⟩ = some (.int .i64 p.f2) ∧ Aside0 (Below wc.heap.size wc W)) → Below W.heap.size W W2 → (W2.cell? ⟨g0, 0, none⟩ = some (.int .i64 c.1) ∧ W2.cell? ⟨g0, 1, none⟩ = some (.slice Ak1 c.2.1.length ck1) ∧ W2.cell? ⟨g0, 2, none⟩ = some (.slice Ak2 c.2.2.length ck2) ∧ W2.cell? ⟨g2, 0, none⟩ = some (.int .i64 a.2.1) ∧ W2.cell? ⟨g2, 1, none⟩ = some (.slice Al1 a.2.2.1.length cl1) ∧ W2.cell? ⟨g2, 2, none⟩ = some (.slice Al2 a.2.2.2.length cl2) ∧ W2.cell? ⟨g3, 0, none⟩ = some (.int .i64 d.2.1) ∧ W2.cell? ⟨g3, 1, none⟩ = some (.slice Ai1 d.2.2.1.length ci1) ∧ W2.cell? ⟨g3, 2, none⟩ = some (.slice Ai2 d.2.2.2.length ci2) ∧ W2.cell? ⟨g1, 0, none⟩ = some (.int .i64 p.f0) ∧ W2.cell? ⟨g1, 2, none⟩ = some (.int .i64 p.f2) ∧ Aside0 (Below wc.heap.size wc W2)) := fun W W2 h hb => ⟨kept_cell hb h.1, kept_cell hb h.2.1, kept_cell hb h.2.2.1, kept_cell hb h.2.2.2.1, kept_cell hb h.2.2.2.2.1, kept_cell hb h.2.2.2.2.2.1, kept_cell hb h.2.2.2.2.2.2.1, kept_cell hb h.2.2.2.2.2.2.2.1, kept_cell hb h.2.2.2.2.2.2.2.2.1, kept_cell hb h.2.2.2.2.2.2.2.2.2.1, kept_cell hb h.2.2.2.2.2.2.2.2.2.2.1, ⟨below_then h.2.2.2.2.2.2.2.2.2.2.2.out h.2.2.2.2.2.2.2.2.2.2.2.out.size hb⟩⟩
  have HKP := Lib.hid hkp; clear hkp
  have HLK := Lib.hid (fun (x : Int) (W : World) (hb : Below wc.heap.size wc W) => load_calls c.1 (.slice Ak1 c.2.1.length ck1) Ak2 ck2 c.2.2 x W (Kd.C_below hdk hb))
  have HLA := Lib.hid (fun (x : Int) (W : World) (hb : Below wc.heap.size wc W) => load_calls a.2.1 (.slice Al1 a.2.2.1.length cl1) Al2 cl2 a.2.2.2 x W (Kd.C_below hdl hb))
  have HQ := Lib.hid (fun (W : World) (hb : Below wc.heap.size wc W) => same_is (c1 := ci1) (c2 := ci2) (d1 := ck1) (d2 := ck2) (W := W) (sameK_yes HL.out.same) (Kd.C_below hci hb) (Kd.C_below hdi hb) (Kd.C_below hck hb) (Kd.C_below hdk hb))
  have b1 : decide (0 ≤ s) = true := decide_eq_true s0
  have b2 : decide (s < (c.2.2.length : Int)) = true := decide_eq_true s1
  have b3 : (p.f2 == 0) = true := by simpa using HL.out.still
  have b4 : (p.f0 != t) = true := by simpa using HL.out.ne
  have b5 : (a.1 == 0) = true := by simpa using HL.out.ea
  have b6 : (d.1 == 0) = true := by simpa using HL.out.ed
  have l1 := loadC_le c.2.2 p.f0
  have l2 := loadC_le c.2.2 t
  have b7 : decide (2 ≤ loadC c.2.2 p.f0 - loadC c.2.2 t) = true := decide_eq_true HL.out.two
  have b8 : (loadC a.2.2.2 p.f0 == loadC c.2.2 p.f0 - 1) = true := by simpa using HL.out.l1
  have b9 : (loadC a.2.2.2 t == loadC c.2.2 t + 1) = true := by simpa using HL.out.l2
  have w1 : IntKind.i64.wrap (loadC c.2.2 p.f0 - loadC c.2.2 t) = loadC c.2.2 p.f0 - loadC c.2.2 t := IntWalk.i64_in _ ⟨by omega, by omega⟩
  have w2 : IntKind.i64.wrap (loadC c.2.2 p.f0 - 1) = loadC c.2.2 p.f0 - 1 := IntWalk.i64_in _ ⟨by omega, by omega⟩
  have w3 : IntKind.i64.wrap (loadC c.2.2 t + 1) = loadC c.2.2 t + 1 := IntWalk.i64_in _ ⟨by omega, by omega⟩
  clear l1 l2 hgk hck hdk hlk hmk hgl hcl hdl hll hml hgi hci hdi hli hmi
  have hs0 : wc.cell? ⟨g0, 0, none⟩ = some (.int .i64 c.1) ∧ wc.cell? ⟨g0, 1, none⟩ = some (.slice Ak1 c.2.1.length ck1) ∧ wc.cell? ⟨g0, 2, none⟩ = some (.slice Ak2 c.2.2.length ck2) ∧ wc.cell? ⟨g2, 0, none⟩ = some (.int .i64 a.2.1) ∧ wc.cell? ⟨g2, 1, none⟩ = some (.slice Al1 a.2.2.1.length cl1) ∧ wc.cell? ⟨g2, 2, none⟩ = some (.slice Al2 a.2.2.2.length cl2) ∧ wc.cell? ⟨g3, 0, none⟩ = some (.int .i64 d.2.1) ∧ wc.cell? ⟨g3, 1, none⟩ = some (.slice Ai1 d.2.2.1.length ci1) ∧ wc.cell? ⟨g3, 2, none⟩ = some (.slice Ai2 d.2.2.2.length ci2) ∧ wc.cell? ⟨g1, 0, none⟩ = some (.int .i64 p.f0) ∧ wc.cell? ⟨g1, 2, none⟩ = some (.int .i64 p.f2) ∧ Aside0 (Below wc.heap.size wc wc) := ⟨k0, k1, k2, l0, l1, l2, i0, i1, i2, p0, p2, ⟨Below.refl _ _⟩⟩
  go_upto_region 9 with (fail)
  go_cut [6] (fun v W => v = .bool true ∧ Aside0 (Hs w [] W))
  case first =>
    simp only [List.append_eq, List.cons_append, List.nil_append]
    go_region_held3 (fun W => W.cell? ⟨g0, 0, none⟩ = some (.int .i64 c.1) ∧ W.cell? ⟨g0, 1, none⟩ = some (.slice Ak1 c.2.1.length ck1) ∧ W.cell? ⟨g0, 2, none⟩ = some (.slice Ak2 c.2.2.length ck2) ∧ W.cell? ⟨g2, 0, none⟩ = some (.int .i64 a.2.1) ∧ W.cell? ⟨g2, 1, none⟩ = some (.slice Al1 a.2.2.1.length cl1) ∧ W.cell? ⟨g2, 2, none⟩ = some (.slice Al2 a.2.2.2.length cl2) ∧ W.cell? ⟨g3, 0, none⟩ = some (.int .i64 d.2.1) ∧ W.cell? ⟨g3, 1, none⟩ = some (.slice Ai1 d.2.2.1.length ci1) ∧ W.cell? ⟨g3, 2, none⟩ = some (.slice Ai2 d.2.2.2.length ci2) ∧ W.cell? ⟨g1, 0, none⟩ = some (.int .i64 p.f0) ∧ W.cell? ⟨g1, 2, none⟩ = some (.int .i64 p.f2) ∧ Aside0 (Below wc.heap.size wc W))
      (first | assumption | exact HKP.out _ _ (by assumption) (below_drew (Below.refl _ _)) | go_keep)
      (first
        | (go_at_call 32; (first | (with_reducible refine (HLK.out _ _ ?hbx).mono ?_) | (with_reducible refine (HLA.out _ _ ?hbx).mono ?_)); (case hbx => exact (by assumption : _ ∧ _ ∧ _ ∧ _ ∧ _ ∧ _ ∧ _ ∧ _ ∧ _ ∧ _ ∧ _ ∧ Aside0 (Below wc.heap.size wc _)).2.2.2.2.2.2.2.2.2.2.2.out); rintro e w2 ⟨rfl, hb2⟩; have hs2 := HKP.out _ _ (by assumption) hb2)
        | (go_at_call 11; (with_reducible refine (HQ.out _ ?hbx).mono ?_); (case hbx => exact (by assumption : _ ∧ _ ∧ _ ∧ _ ∧ _ ∧ _ ∧ _ ∧ _ ∧ _ ∧ _ ∧ _ ∧ Aside0 (Below wc.heap.size wc _)).2.2.2.2.2.2.2.2.2.2.2.out); rintro e w2 ⟨rfl, hb2⟩; have hs2 := HKP.out _ _ (by assumption) hb2))
    all_goals
      go_wp2_with fail
      go_meet
      exact ⟨rfl, ⟨(HS6.out.below (by assumption : _ ∧ _ ∧ _ ∧ _ ∧ _ ∧ _ ∧ _ ∧ _ ∧ _ ∧ _ ∧ _ ∧ Aside0 (Below wc.heap.size wc _)).2.2.2.2.2.2.2.2.2.2.2.out).sub (by simp)⟩⟩
  obtain ⟨rfl, HS7⟩ := hcut
  go_wp2
  go_ret
  exact ⟨rfl, HS7.out.1⟩
end Go.Proofs.Ytdbgpakmbjhmgaa.H
