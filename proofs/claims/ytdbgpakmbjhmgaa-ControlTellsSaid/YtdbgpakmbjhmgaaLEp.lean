/- ControlTells. -/
import Derived.Test.YtdbgpakmbjhmgaaLEv
namespace Go.Proofs.Ytdbgpakmbjhmgaa.H
open Go.RowKit Go.Proofs.YtdbgpakmbjhmgaaW.PrintWords Go.Proofs.YtdbgpakmbjhmgaaW.PrintLast Go.Proofs.YtdbgpakmbjhmgaaW.PrintMore
set_option linter.unusedVariables false
set_option linter.unusedSimpArgs false

set_option maxHeartbeats 8000000 in
set_option maxRecDepth 100000 in
theorem tells_calls (shards bin : Int) (A : Option Addr) (cc : Nat) (raw : List S53) (any : Ctl) (Ay1 : Option Addr) (cy1 : Nat) (Ay2 : Option Addr) (cy2 : Nat) (n m : Int) (w : World) (hr : Kd.C k53 w A raw.length raw) (hs : InI shards) (hb : InI bin) (hraw : ∀ x ∈ raw, InI x.f0 ∧ InI x.f1 ∧ InI x.f2)
    (hy1 : Kd.C k45 w Ay1 any.2.1.length any.2.1) (hy2 : Kd.C k48 w Ay2 any.2.2.length any.2.2) (hn : InI n) (hm : InI m) :
    Calls Try.prog 3 #[.int .i64 shards, .int .i64 bin, .slice A raw.length cc, .agg #[.int .i64 any.1, .slice Ay1 any.2.1.length cy1, .slice Ay2 any.2.2.length cy2], .int .i64 n, .int .i64 m] w fun e w' => e = .returned (.bool true) ∧ Below w.heap.size w w' := by
  have hml1 : any.2.1.length ≤ 9223372036854775807 := hy1.2.1
  have hml2 : any.2.2.length ≤ 9223372036854775807 := hy2.2.1
  generalize hW0 : w.alloc (.cells #[.int .i64 any.1, .slice Ay1 any.2.1.length cy1, .slice Ay2 any.2.2.length cy2] 26) = W0
  have HB0 := Lib.hid (show Below w.heap.size w W0 by rw [← hW0]; exact below_alloc (Below.refl _ _) _)
  have HY0 := Lib.hid (show HoldsF w.heap.size any W0 from ⟨Ay1, cy1, Ay2, cy2, by rw [← hW0]; exact new_at (by simp) _, Kd.C_below hy1 HB0.out, Kd.C_below hy2 HB0.out⟩)
  have HW0 := Lib.hid hW0; clear hW0
  have HCO := Lib.hid (fun W (hbw : Below w.heap.size w W) => (control_calls shards bin A cc raw W (Kd.C_below hr hbw) hs hb hraw).mono (fun _ _ h => (got1_of h : Got1 (controlC shards bin raw) _ _ _)))
  have HG := Lib.hid (good_control shards bin raw)
  generalize controlC shards bin raw = c0 at *
  have HIb := Lib.hid hb
  have HIn := Lib.hid hn
  have HIm := Lib.hid hm
  clear hr hs hb hraw hy1 hy2 hn hm
  go_enter Try.func3, Try.ntmps3
  go_upto_region 1 with (fail)
  rw [HW0.out]
  go_cut [13] (fun o W => o = .bool true ∧ Aside0 (Below w.heap.size w W ∧ HoldsF w.heap.size any W))
  case first =>
    go_wp2_with fail
    refine (awake_calls _).mono ?_
    rintro e W1 ⟨rfl, hb⟩
    go_wp2
    go_meet
    case rel => exact ⟨rfl, ⟨below_then HB0.out HB0.out.size hb, HY0.out.below hb⟩⟩
  clear HB0 HY0 HW0
  obtain ⟨rfl, HA1⟩ := hcut
  go_upto_region 2 with (fail)
  go_cut [56] (fun o W => o = .bool false ∧ Aside0 (Below w.heap.size w W ∧ HoldsF w.heap.size any W))
  case first =>
    refine tells_new (n := n) (m := m) (bin := bin) HIn.out HIm.out HIb.out ?_
    intro W' hX
    intros
    have HXX := Lib.hid hX
    clear hX
    go_wp2_with fail
    go_meet
    exact ⟨rfl, ⟨below_then HA1.out.1 HA1.out.1.size HXX.out, HA1.out.2.below HXX.out⟩⟩
  clear HA1
  obtain ⟨rfl, HA2⟩ := hcut
  obtain ⟨Ay1, cy1, Ay2, cy2, hyg, hyc, hyd⟩ := HA2.out.2
  obtain ⟨y0, y1, y2, _, _, _, yl⟩ := three_cells hyg
  have HYG := Lib.hid hyg
  have HYC := Lib.hid hyc
  have HYD := Lib.hid hyd
  clear hyg hyc hyd
  go_upto_region 4 with (fail)
  go_cut [62, 63, 64] (fun v62 v63 v64 W => v63 = .int .i64 2 ∧ v64 = .int .i64 0 ∧ ∃ gA, v62 = .slice (some ⟨gA, 0, none⟩) 2 2 ∧ Aside0 (TwoC w c0 any gA W))
  case first =>
    go_region_with (first
      | (go_at_call 15; refine (HCO.out _ (below_drew HA2.out.1)).mono ?_; rintro e W1 ⟨B1, d1, B2, d2, rfl, o1, o2, hb⟩; have hyz := kept_on hb HYG.out; obtain ⟨z0, z1, z2, _, _, _, zl⟩ := three_cells hyz))
    all_goals
      go_wp2_with fail
      go_meet
      exact ⟨rfl, rfl, _, rfl, ⟨twoC_new (below_then (below_drew HA2.out.1) HA2.out.1.size hb) o1 o2 (Kd.C_below HYC.out (⟨hb.os, hb.tape, hb.output, hb.size, hb.block⟩ : Below wc.heap.size wc W1)) (Kd.C_below HYD.out (⟨hb.os, hb.tape, hb.output, hb.size, hb.block⟩ : Below wc.heap.size wc W1))⟩⟩
  clear y0 y1 y2 yl HYG HYC HYD HCO HA2
  obtain ⟨rfl, rfl, gA, rfl, HT⟩ := hcut
  go_wp2
  refine tells_outer (w := w) (c0 := c0) (any := any) (gA := gA) (n := n) (m := m) HIn.out HIm.out HT.out ?_
  intro W' hT
  intros
  have HT2 := Lib.hid hT
  clear hT
  go_wp2
  go_ret
  exact ⟨rfl, HT2.out.1⟩
end Go.Proofs.Ytdbgpakmbjhmgaa.H
