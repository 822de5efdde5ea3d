/- Parts of the proof, merged: Dn, Dr, Ds. -/
import Derived.Test.YtdbgpakmbjhmgaaK4
import Derived.Deep.RegionWith
import Derived.Test.YtdbgpakmbjhmgaaK3
/- The law's Control: raw steps. -/
namespace Go.Proofs.Ytdbgpakmbjhmgaa.H
open Go.RowKit Go.Proofs.YtdbgpakmbjhmgaaW.PrintWords Go.Proofs.YtdbgpakmbjhmgaaW.PrintLast Go.Proofs.YtdbgpakmbjhmgaaW.PrintMore
set_option linter.unusedVariables false
set_option linter.unusedSimpArgs false

abbrev Ctl := Int × List S45 × List S48
def stepC (x : S53) (c : Ctl) : Ctl :=
  let o := pickI x.f0 10
  let s := pickI x.f1 8
  let h := 1 + pickI x.f2 10
  if o = 0 ∨ o = 1 ∨ o = 2 then (joinR h (1 + pickI x.f1 2) c.1 c.2.1 c.2.2).2
  else if o = 3 ∨ o = 4 then (reportR h (1 + pickI x.f1 2) c.1 c.2.1 c.2.2).2
  else if o = 5 then (finR c.1 c.2.1 c.2.2).2
  else if o = 6 ∨ o = 7 then (planR s h c.1 c.2.1 c.2.2).2
  else if o = 8 then (commitR s c.1 c.2.1 c.2.2).2
  else (cancelR s c.1 c.2.1 c.2.2).2
def startC (shards bin : Int) : Ctl := newC (1 + pickI shards 8) 5 (1 + pickI bin 2)
def controlC (shards bin : Int) (raw : List S53) : Ctl := (raw.take 30).foldl (fun c x => stepC x c) (startC shards bin)

def CS (w : World) (g : Nat) (c : Ctl) (W : World) : Prop :=
  ∃ A1 c1 A2 c2, W.heap[g]? = some (.cells #[.int .i64 c.1, .slice A1 c.2.1.length c1, .slice A2 c.2.2.length c2] 26 (0, 0)) ∧ Kd.R k45 45 W w.heap.size (fun _ => True) (.slice A1 c.2.1.length c1) c.2.1 ∧ Kd.R k48 48 W w.heap.size (fun _ => True) (.slice A2 c.2.2.length c2) c.2.2 ∧
    W.heap[w.heap.size]? = some (.cells #[.int .i64 0, .slice none 0 0, .slice none 0 0] 26 (0, 0)) ∧ Below w.heap.size w W

theorem CS_of {w W : World} {g : Nat} {rr : Int × Ctl} {x y z : Value} {A1 A2 : Option Addr} {c1 c2 : Nat} (hg : w.heap.size < g) (ha : W.heap[g]? = some (.cells #[x, y, z] 26 (0, 0))) (hz : W.heap[w.heap.size]? = some (.cells #[.int .i64 0, .slice none 0 0, .slice none 0 0] 26 (0, 0)))
    (ho : Kd.R k45 45 W w.heap.size (fun _ => True) (.slice A1 rr.2.2.1.length c1) rr.2.2.1) (hp : Kd.R k48 48 W w.heap.size (fun _ => True) (.slice A2 rr.2.2.2.length c2) rr.2.2.2) (hb : Below w.heap.size w W) :
    CS w g rr.2 (((W.setCell ⟨g, 0, none⟩ (.int .i64 rr.2.1)).setCell ⟨g, 1, none⟩ (.slice A1 rr.2.2.1.length c1)).setCell ⟨g, 2, none⟩ (.slice A2 rr.2.2.2.length c2)) :=
  ⟨A1, c1, A2, c2, own_set ha _ _ _, own_R ho ha (Nat.le_refl _) (by decide), own_R hp ha (Nat.le_refl _) (by decide), blk_other (blk_other (blk_other hz _ _ (by show w.heap.size ≠ g; omega)) _ _ (by show w.heap.size ≠ g; omega)) _ _ (by show w.heap.size ≠ g; omega), below_set (below_set (below_set hb (by omega)) (by omega)) (by omega)⟩

set_option maxHeartbeats 4000000 in
set_option maxRecDepth 100000 in
theorem control_calls (shards bin : Int) (A : Option Addr) (cc : Nat) (raw : List S53) (w : World) (hr : Kd.C k53 w A raw.length raw) (hs : InI shards) (hb : InI bin) (hraw : ∀ x ∈ raw, InI x.f0 ∧ InI x.f1 ∧ InI x.f2) :
    Calls Try.prog 15 #[.int .i64 shards, .int .i64 bin, .slice A raw.length cc] w fun e w' => ∃ v1 v2, e = .returned (.agg #[.int .i64 (controlC shards bin raw).1, v1, v2]) ∧
      Kd.R k45 45 w' w.heap.size (fun _ => True) v1 (controlC shards bin raw).2.1 ∧ Kd.R k48 48 w' w.heap.size (fun _ => True) v2 (controlC shards bin raw).2.2 ∧ Below w.heap.size w w' := by
  have hmx : raw.length ≤ 9223372036854775807 := hr.2.1
  have HR := Lib.hid hr; clear hr
  have HI := Lib.hid hraw; clear hraw
  have HP1 := Lib.hid (fun w => pick_calls shards 8 hs (by decide) (by decide) w)
  have HP2 := Lib.hid (fun w => pick_calls bin 2 hb (by decide) (by decide) w)
  obtain ⟨b1, b2⟩ := pickI_bound shards 8 (by decide)
  obtain ⟨b3, b4⟩ := pickI_bound bin 2 (by decide)
  have HX := Lib.hid (show controlC shards bin raw = (raw.take 30).foldl (fun c x => stepC x c) (newC (1 + pickI shards 8) 5 (1 + pickI bin 2)) from rfl)
  generalize controlC shards bin raw = r at *
  generalize pickI shards 8 = ps8 at *
  generalize pickI bin 2 = pb2 at *
  have hw1 : IntKind.i64.wrap (1 + ps8) = 1 + ps8 := IntWalk.i64_in _ ⟨by omega, by omega⟩
  have hw2 : IntKind.i64.wrap (1 + pb2) = 1 + pb2 := IntWalk.i64_in _ ⟨by omega, by omega⟩
  have hbz := below_alloc (Below.refl w.heap.size w) (.cells #[.int .i64 0, .slice none 0 0, .slice none 0 0] 26)
  have hz := heap_alloc_new w (.cells #[.int .i64 0, .slice none 0 0, .slice none 0 0] 26)
  generalize hW0 : w.alloc (.cells #[.int .i64 0, .slice none 0 0, .slice none 0 0] 26) = W0 at *
  have HB0 := Lib.hid hbz; clear hbz
  have HZ0 := Lib.hid hz; clear hz
  have HW0 := Lib.hid hW0; clear hW0
  have HNW := Lib.hid (newR_calls (1 + ps8) 5 (1 + pb2) W0)
  have HNL := Lib.hid (newC_len (1 + ps8) 5 (1 + pb2))
  generalize newC (1 + ps8) 5 (1 + pb2) = c0 at *
  go_enter Try.func15, Try.ntmps15
  go_upto_region 1 with (fail)
  rw [HW0.out]
  go_wp2_with fail
  refine (HP1.out _).mono ?_
  rintro e W' ⟨rfl, rfl⟩
  go_wp2_with fail
  refine (HP2.out _).mono ?_
  rintro e W' ⟨rfl, rfl⟩
  go_wp2_with fail
  refine HNW.out.mono ?_
  rintro e W1 ⟨v1, v2, rfl, ho1, ho2, hb1⟩
  obtain ⟨A1, c1, rfl⟩ := Kd.R_slice ho1
  obtain ⟨A2, c2, rfl⟩ := Kd.R_slice ho2
  generalize hW2 : W1.alloc (.cells #[.int .i64 c0.1, .slice A1 c0.2.1.length c1, .slice A2 c0.2.2.length c2] 26) = W2
  have hb2 : Below W1.heap.size W1 W2 := by rw [← hW2]; exact below_alloc (Below.refl _ _) _
  have hcs : CS w W1.heap.size c0 W2 := ⟨A1, c1, A2, c2, by rw [← hW2]; exact heap_alloc_new _ _, Kd.R_lower (Kd.R_below ho1 hb2) HB0.out.size, Kd.R_lower (Kd.R_below ho2 hb2) HB0.out.size, kept_on hb2 (kept_on hb1 HZ0.out), below_then (below_then HB0.out HB0.out.size hb1) (Nat.le_trans HB0.out.size hb1.size) hb2⟩
  have HCS := Lib.hid hcs; clear hcs
  have HGW := Lib.hid (show w.heap.size < W1.heap.size by have h1 := hb1.size; have h2 := blk_lt HZ0.out; omega)
  have HW2 := Lib.hid hW2; clear hW2 hb1 hb2 ho1 ho2 hw1 hw2 b1 b2 b3 b4
  go_upto_region 2 with (fail)
  rw [HW2.out]
  go_wp2
  go_loopw [8] (fun v W => ∃ (k : Nat) (c : Ctl), k ≤ raw.length ∧ k ≤ 30 ∧ v = .int .i64 k ∧ c.2.1.length ≤ k + 1 ∧ c.2.2.length ≤ 9 ∧ Aside0 (r = ((raw.take 30).drop k).foldl (fun c x => stepC x c) c) ∧ Aside0 (CS w W1.heap.size c W)) (fun v _ => raw.length - (intOf v).toNat)
  case atStart => exact ⟨0, c0, Nat.zero_le _, by decide, rfl, HNL.out.1, HNL.out.2, ⟨HX.out⟩, ⟨HCS.out⟩⟩
  case round =>
    obtain ⟨k, c, hk1, hk2, rfl, hl1, hl2, HE, HS⟩ := hrel
    obtain ⟨A3, c3, A4, c4, ha, ho, hp, hz, hb⟩ := HS.out
    have HA := Lib.hid ha
    have HO := Lib.hid ho
    have HP := Lib.hid hp
    have HZ := Lib.hid hz
    have HB := Lib.hid hb
    clear ha ho hp hz hb
    obtain ⟨a0, a1, a2, a3, a4, a5, a6⟩ := three_cells HA.out
    by_cases d1 : k < raw.length
    · by_cases d2 : k < 30
      · obtain ⟨ad, rfl, h0, h1, h2⟩ := at_T53 (Kd.C_below HR.out HB.out) k (by omega) (by omega)
        rw [Int.toNat_natCast] at h0 h1 h2
        have hxin : rd_T53 raw k ∈ raw := by simp only [rd_T53, Int.toNat_natCast, List.getD_eq_getElem?_getD, List.getElem?_eq_getElem d1, Option.getD_some]; exact List.getElem_mem _
        have hst : (raw.take 30).drop k = rd_T53 raw k :: (raw.take 30).drop (k + 1) := by
          rw [List.drop_eq_getElem_cons (by rw [List.length_take]; omega), List.getElem_take]
          simp only [rd_T53, Int.toNat_natCast, List.getD_eq_getElem?_getD, List.getElem?_eq_getElem d1, Option.getD_some]
        obtain ⟨i0, i1, i2⟩ := HI.out _ hxin
        have HST := Lib.hid hst; clear hst hxin
        generalize rd_T53 raw k = x at *
        have HQ0 := Lib.hid (fun w => pick_calls x.f0 10 i0 (by decide) (by decide) w)
        have HQ1 := Lib.hid (fun w => pick_calls x.f1 8 i1 (by decide) (by decide) w)
        have HQ2 := Lib.hid (fun w => pick_calls x.f2 10 i2 (by decide) (by decide) w)
        have HQ3 := Lib.hid (fun w => pick_calls x.f1 2 i1 (by decide) (by decide) w)
        obtain ⟨b1, b2⟩ := pickI_bound x.f0 10 (by decide)
        obtain ⟨b3, b4⟩ := pickI_bound x.f1 8 (by decide)
        obtain ⟨b5, b6⟩ := pickI_bound x.f2 10 (by decide)
        obtain ⟨b7, b8⟩ := pickI_bound x.f1 2 (by decide)
        have e1 : (0 : Int) ≤ k := by omega
        have e2 : (k : Int) < raw.length := by omega
        have hw1 : IntKind.i64.wrap (1 + pickI x.f2 10) = 1 + pickI x.f2 10 := IntWalk.i64_in _ ⟨by omega, by omega⟩
        have hw2 : IntKind.i64.wrap (1 + pickI x.f1 2) = 1 + pickI x.f1 2 := IntWalk.i64_in _ ⟨by omega, by omega⟩
        go_wp2_with fail
        refine (HQ1.out _).mono ?_
        rintro e W' ⟨rfl, rfl⟩
        go_wp2_with fail
        refine (HQ2.out _).mono ?_
        rintro e W' ⟨rfl, rfl⟩
        go_wp2_with fail
        refine (HQ0.out _).mono ?_
        rintro e W' ⟨rfl, rfl⟩
        have HE2 := Lib.hid (show r = ((raw.take 30).drop (k + 1)).foldl (fun c x => stepC x c) (stepC x c) by rw [HE.out, HST.out]; rfl)
        have HSC := Lib.hid (show stepC x c = if pickI x.f0 10 = 0 ∨ pickI x.f0 10 = 1 ∨ pickI x.f0 10 = 2 then (joinR (1 + pickI x.f2 10) (1 + pickI x.f1 2) c.1 c.2.1 c.2.2).2
          else if pickI x.f0 10 = 3 ∨ pickI x.f0 10 = 4 then (reportR (1 + pickI x.f2 10) (1 + pickI x.f1 2) c.1 c.2.1 c.2.2).2
          else if pickI x.f0 10 = 5 then (finR c.1 c.2.1 c.2.2).2
          else if pickI x.f0 10 = 6 ∨ pickI x.f0 10 = 7 then (planR (pickI x.f1 8) (1 + pickI x.f2 10) c.1 c.2.1 c.2.2).2
          else if pickI x.f0 10 = 8 then (commitR (pickI x.f1 8) c.1 c.2.1 c.2.2).2
          else (cancelR (pickI x.f1 8) c.1 c.2.1 c.2.2).2 from rfl)
        generalize pickI x.f0 10 = o at *
        generalize pickI x.f1 8 = sh at *
        generalize 1 + pickI x.f2 10 = hh at *
        generalize pickI x.f1 2 = q2 at *
        clear hw1
        have ho10 : o = 0 ∨ o = 1 ∨ o = 2 ∨ o = 3 ∨ o = 4 ∨ o = 5 ∨ o = 6 ∨ o = 7 ∨ o = 8 ∨ o = 9 := by omega
        rcases ho10 with rfl | rfl | rfl | rfl | rfl | rfl | rfl | rfl | rfl | rfl
        · have HCL := Lib.hid (joinR_calls hh (1 + q2) c.1 A3 c3 c.2.1 A4 c4 c.2.2 wr.drew (Kd.R_reads' (Kd.R_move HO.out (fun _ _ => rfl) : Kd.R k45 45 wr.drew w.heap.size (fun _ => True) (.slice A3 c.2.1.length c3) c.2.1)).2.2 (Kd.R_reads' (Kd.R_move HP.out (fun _ _ => rfl) : Kd.R k48 48 wr.drew w.heap.size (fun _ => True) (.slice A4 c.2.2.length c4) c.2.2)).2.2 (by omega) (by omega))
          have HRE := Lib.hid (HE2.out.trans (by rw [show stepC x c = (joinR hh (1 + q2) c.1 c.2.1 c.2.2).2 by rw [HSC.out]; rfl]) : r = ((raw.take 30).drop (k + 1)).foldl (fun c x => stepC x c) (joinR hh (1 + q2) c.1 c.2.1 c.2.2).2)
          have HGR := Lib.hid (joinR_len hh (1 + q2) c.1 c.2.1 c.2.2)
          generalize joinR hh (1 + q2) c.1 c.2.1 c.2.2 = rr at *
          go_wp2_with fail
          go_region_with (first
              | (go_at_call 14; refine (HQ3.out _).mono ?_; rintro e W' ⟨rfl, rfl⟩)
              | (go_at_call 23; refine HCL.out.mono ?_; rintro e W5 ⟨u1, u2, rfl, ho1, ho2, hb1⟩; obtain ⟨A5, c5, rfl⟩ := Kd.R_slice ho1; obtain ⟨A6, c6, rfl⟩ := Kd.R_slice ho2; have HA5 := Lib.hid (kept_on hb1 HA.out); obtain ⟨y0, y1, y2, y3, y4, y5, y6⟩ := three_cells HA5.out))
          all_goals
            have HCS5 := Lib.hid (CS_of HGW.out HA5.out (kept_on hb1 HZ.out) (Kd.R_lower ho1 HB.out.size) (Kd.R_lower ho2 HB.out.size) (below_then (below_drew HB.out) HB.out.size hb1))
            go_wp2
            go_roundw
            case rel => exact ⟨k + 1, rr.2, by omega, by omega, by go_num, by have := HGR.out.1; omega, by have := HGR.out.2; omega, ⟨HRE.out⟩, ⟨HCS5.out⟩⟩
            case measure => simp [intOf]; omega
        · have HCL := Lib.hid (joinR_calls hh (1 + q2) c.1 A3 c3 c.2.1 A4 c4 c.2.2 wr.drew (Kd.R_reads' (Kd.R_move HO.out (fun _ _ => rfl) : Kd.R k45 45 wr.drew w.heap.size (fun _ => True) (.slice A3 c.2.1.length c3) c.2.1)).2.2 (Kd.R_reads' (Kd.R_move HP.out (fun _ _ => rfl) : Kd.R k48 48 wr.drew w.heap.size (fun _ => True) (.slice A4 c.2.2.length c4) c.2.2)).2.2 (by omega) (by omega))
          have HRE := Lib.hid (HE2.out.trans (by rw [show stepC x c = (joinR hh (1 + q2) c.1 c.2.1 c.2.2).2 by rw [HSC.out]; rfl]) : r = ((raw.take 30).drop (k + 1)).foldl (fun c x => stepC x c) (joinR hh (1 + q2) c.1 c.2.1 c.2.2).2)
          have HGR := Lib.hid (joinR_len hh (1 + q2) c.1 c.2.1 c.2.2)
          generalize joinR hh (1 + q2) c.1 c.2.1 c.2.2 = rr at *
          go_wp2_with fail
          go_region_with (first
              | (go_at_call 14; refine (HQ3.out _).mono ?_; rintro e W' ⟨rfl, rfl⟩)
              | (go_at_call 23; refine HCL.out.mono ?_; rintro e W5 ⟨u1, u2, rfl, ho1, ho2, hb1⟩; obtain ⟨A5, c5, rfl⟩ := Kd.R_slice ho1; obtain ⟨A6, c6, rfl⟩ := Kd.R_slice ho2; have HA5 := Lib.hid (kept_on hb1 HA.out); obtain ⟨y0, y1, y2, y3, y4, y5, y6⟩ := three_cells HA5.out))
          all_goals
            have HCS5 := Lib.hid (CS_of HGW.out HA5.out (kept_on hb1 HZ.out) (Kd.R_lower ho1 HB.out.size) (Kd.R_lower ho2 HB.out.size) (below_then (below_drew HB.out) HB.out.size hb1))
            go_wp2
            go_roundw
            case rel => exact ⟨k + 1, rr.2, by omega, by omega, by go_num, by have := HGR.out.1; omega, by have := HGR.out.2; omega, ⟨HRE.out⟩, ⟨HCS5.out⟩⟩
            case measure => simp [intOf]; omega
        · have HCL := Lib.hid (joinR_calls hh (1 + q2) c.1 A3 c3 c.2.1 A4 c4 c.2.2 wr.drew (Kd.R_reads' (Kd.R_move HO.out (fun _ _ => rfl) : Kd.R k45 45 wr.drew w.heap.size (fun _ => True) (.slice A3 c.2.1.length c3) c.2.1)).2.2 (Kd.R_reads' (Kd.R_move HP.out (fun _ _ => rfl) : Kd.R k48 48 wr.drew w.heap.size (fun _ => True) (.slice A4 c.2.2.length c4) c.2.2)).2.2 (by omega) (by omega))
          have HRE := Lib.hid (HE2.out.trans (by rw [show stepC x c = (joinR hh (1 + q2) c.1 c.2.1 c.2.2).2 by rw [HSC.out]; rfl]) : r = ((raw.take 30).drop (k + 1)).foldl (fun c x => stepC x c) (joinR hh (1 + q2) c.1 c.2.1 c.2.2).2)
          have HGR := Lib.hid (joinR_len hh (1 + q2) c.1 c.2.1 c.2.2)
          generalize joinR hh (1 + q2) c.1 c.2.1 c.2.2 = rr at *
          go_wp2_with fail
          go_region_with (first
              | (go_at_call 14; refine (HQ3.out _).mono ?_; rintro e W' ⟨rfl, rfl⟩)
              | (go_at_call 23; refine HCL.out.mono ?_; rintro e W5 ⟨u1, u2, rfl, ho1, ho2, hb1⟩; obtain ⟨A5, c5, rfl⟩ := Kd.R_slice ho1; obtain ⟨A6, c6, rfl⟩ := Kd.R_slice ho2; have HA5 := Lib.hid (kept_on hb1 HA.out); obtain ⟨y0, y1, y2, y3, y4, y5, y6⟩ := three_cells HA5.out))
          all_goals
            have HCS5 := Lib.hid (CS_of HGW.out HA5.out (kept_on hb1 HZ.out) (Kd.R_lower ho1 HB.out.size) (Kd.R_lower ho2 HB.out.size) (below_then (below_drew HB.out) HB.out.size hb1))
            go_wp2
            go_roundw
            case rel => exact ⟨k + 1, rr.2, by omega, by omega, by go_num, by have := HGR.out.1; omega, by have := HGR.out.2; omega, ⟨HRE.out⟩, ⟨HCS5.out⟩⟩
            case measure => simp [intOf]; omega
        · have HCL := Lib.hid (reportR_calls hh (1 + q2) c.1 A3 c3 c.2.1 A4 c4 c.2.2 wr.drew (Kd.R_reads' (Kd.R_move HO.out (fun _ _ => rfl) : Kd.R k45 45 wr.drew w.heap.size (fun _ => True) (.slice A3 c.2.1.length c3) c.2.1)).2.2 (Kd.R_reads' (Kd.R_move HP.out (fun _ _ => rfl) : Kd.R k48 48 wr.drew w.heap.size (fun _ => True) (.slice A4 c.2.2.length c4) c.2.2)).2.2 (by omega) (by omega))
          have HRE := Lib.hid (HE2.out.trans (by rw [show stepC x c = (reportR hh (1 + q2) c.1 c.2.1 c.2.2).2 by rw [HSC.out]; rfl]) : r = ((raw.take 30).drop (k + 1)).foldl (fun c x => stepC x c) (reportR hh (1 + q2) c.1 c.2.1 c.2.2).2)
          have HGR := Lib.hid (reportR_len hh (1 + q2) c.1 c.2.1 c.2.2)
          generalize reportR hh (1 + q2) c.1 c.2.1 c.2.2 = rr at *
          go_wp2_with fail
          go_region_with (first
              | (go_at_call 14; refine (HQ3.out _).mono ?_; rintro e W' ⟨rfl, rfl⟩)
              | (go_at_call 25; refine HCL.out.mono ?_; rintro e W5 ⟨u1, u2, rfl, ho1, ho2, hb1⟩; obtain ⟨A5, c5, rfl⟩ := Kd.R_slice ho1; obtain ⟨A6, c6, rfl⟩ := Kd.R_slice ho2; have HA5 := Lib.hid (kept_on hb1 HA.out); obtain ⟨y0, y1, y2, y3, y4, y5, y6⟩ := three_cells HA5.out))
          all_goals
            have HCS5 := Lib.hid (CS_of HGW.out HA5.out (kept_on hb1 HZ.out) (Kd.R_lower ho1 HB.out.size) (Kd.R_lower ho2 HB.out.size) (below_then (below_drew HB.out) HB.out.size hb1))
            go_wp2
            go_roundw
            case rel => exact ⟨k + 1, rr.2, by omega, by omega, by go_num, by have := HGR.out.1; omega, by have := HGR.out.2; omega, ⟨HRE.out⟩, ⟨HCS5.out⟩⟩
            case measure => simp [intOf]; omega
        · have HCL := Lib.hid (reportR_calls hh (1 + q2) c.1 A3 c3 c.2.1 A4 c4 c.2.2 wr.drew (Kd.R_reads' (Kd.R_move HO.out (fun _ _ => rfl) : Kd.R k45 45 wr.drew w.heap.size (fun _ => True) (.slice A3 c.2.1.length c3) c.2.1)).2.2 (Kd.R_reads' (Kd.R_move HP.out (fun _ _ => rfl) : Kd.R k48 48 wr.drew w.heap.size (fun _ => True) (.slice A4 c.2.2.length c4) c.2.2)).2.2 (by omega) (by omega))
          have HRE := Lib.hid (HE2.out.trans (by rw [show stepC x c = (reportR hh (1 + q2) c.1 c.2.1 c.2.2).2 by rw [HSC.out]; rfl]) : r = ((raw.take 30).drop (k + 1)).foldl (fun c x => stepC x c) (reportR hh (1 + q2) c.1 c.2.1 c.2.2).2)
          have HGR := Lib.hid (reportR_len hh (1 + q2) c.1 c.2.1 c.2.2)
          generalize reportR hh (1 + q2) c.1 c.2.1 c.2.2 = rr at *
          go_wp2_with fail
          go_region_with (first
              | (go_at_call 14; refine (HQ3.out _).mono ?_; rintro e W' ⟨rfl, rfl⟩)
              | (go_at_call 25; refine HCL.out.mono ?_; rintro e W5 ⟨u1, u2, rfl, ho1, ho2, hb1⟩; obtain ⟨A5, c5, rfl⟩ := Kd.R_slice ho1; obtain ⟨A6, c6, rfl⟩ := Kd.R_slice ho2; have HA5 := Lib.hid (kept_on hb1 HA.out); obtain ⟨y0, y1, y2, y3, y4, y5, y6⟩ := three_cells HA5.out))
          all_goals
            have HCS5 := Lib.hid (CS_of HGW.out HA5.out (kept_on hb1 HZ.out) (Kd.R_lower ho1 HB.out.size) (Kd.R_lower ho2 HB.out.size) (below_then (below_drew HB.out) HB.out.size hb1))
            go_wp2
            go_roundw
            case rel => exact ⟨k + 1, rr.2, by omega, by omega, by go_num, by have := HGR.out.1; omega, by have := HGR.out.2; omega, ⟨HRE.out⟩, ⟨HCS5.out⟩⟩
            case measure => simp [intOf]; omega
        · have HCL := Lib.hid (finR_calls  c.1 A3 c3 c.2.1 A4 c4 c.2.2 wr (Kd.R_reads' HO.out).2.2 (Kd.R_reads' HP.out).2.2 (by omega) (by omega))
          have HRE := Lib.hid (HE2.out.trans (by rw [show stepC x c = (finR  c.1 c.2.1 c.2.2).2 by rw [HSC.out]; rfl]) : r = ((raw.take 30).drop (k + 1)).foldl (fun c x => stepC x c) (finR  c.1 c.2.1 c.2.2).2)
          have HGR := Lib.hid (finR_len  c.1 c.2.1 c.2.2)
          generalize finR  c.1 c.2.1 c.2.2 = rr at *
          go_wp2_with fail
          refine HCL.out.mono ?_
          rintro e W5 ⟨u1, u2, rfl, ho1, ho2, hb1⟩
          obtain ⟨A5, c5, rfl⟩ := Kd.R_slice ho1
          obtain ⟨A6, c6, rfl⟩ := Kd.R_slice ho2
          have HA5 := Lib.hid (kept_on hb1 HA.out)
          have HCS5 := Lib.hid (CS_of HGW.out HA5.out (kept_on hb1 HZ.out) (Kd.R_lower ho1 HB.out.size) (Kd.R_lower ho2 HB.out.size) (below_then HB.out HB.out.size hb1))
          clear a0 a1 a2 a3 a4 a5 a6 ho1 ho2 hb1 HCL h0 h1 h2
          obtain ⟨a0, a1, a2, a3, a4, a5, a6⟩ := three_cells HA5.out
          go_wp2
          go_roundw
          case rel => exact ⟨k + 1, rr.2, by omega, by omega, by go_num, by have := HGR.out.1; omega, by have := HGR.out.2; omega, ⟨HRE.out⟩, ⟨HCS5.out⟩⟩
          case measure => simp [intOf]; omega
        · have HCL := Lib.hid (planR_calls sh hh c.1 A3 c3 c.2.1 A4 c4 c.2.2 wr (Kd.R_reads' HO.out).2.2 (Kd.R_reads' HP.out).2.2 (by omega) (by omega))
          have HRE := Lib.hid (HE2.out.trans (by rw [show stepC x c = (planR sh hh c.1 c.2.1 c.2.2).2 by rw [HSC.out]; rfl]) : r = ((raw.take 30).drop (k + 1)).foldl (fun c x => stepC x c) (planR sh hh c.1 c.2.1 c.2.2).2)
          have HGR := Lib.hid (planR_len sh hh c.1 c.2.1 c.2.2)
          generalize planR sh hh c.1 c.2.1 c.2.2 = rr at *
          go_wp2_with fail
          refine HCL.out.mono ?_
          rintro e W5 ⟨u1, u2, rfl, ho1, ho2, hb1⟩
          obtain ⟨A5, c5, rfl⟩ := Kd.R_slice ho1
          obtain ⟨A6, c6, rfl⟩ := Kd.R_slice ho2
          have HA5 := Lib.hid (kept_on hb1 HA.out)
          have HCS5 := Lib.hid (CS_of HGW.out HA5.out (kept_on hb1 HZ.out) (Kd.R_lower ho1 HB.out.size) (Kd.R_lower ho2 HB.out.size) (below_then HB.out HB.out.size hb1))
          clear a0 a1 a2 a3 a4 a5 a6 ho1 ho2 hb1 HCL h0 h1 h2
          obtain ⟨a0, a1, a2, a3, a4, a5, a6⟩ := three_cells HA5.out
          go_wp2
          go_roundw
          case rel => exact ⟨k + 1, rr.2, by omega, by omega, by go_num, by have := HGR.out.1; omega, by have := HGR.out.2; omega, ⟨HRE.out⟩, ⟨HCS5.out⟩⟩
          case measure => simp [intOf]; omega
        · have HCL := Lib.hid (planR_calls sh hh c.1 A3 c3 c.2.1 A4 c4 c.2.2 wr (Kd.R_reads' HO.out).2.2 (Kd.R_reads' HP.out).2.2 (by omega) (by omega))
          have HRE := Lib.hid (HE2.out.trans (by rw [show stepC x c = (planR sh hh c.1 c.2.1 c.2.2).2 by rw [HSC.out]; rfl]) : r = ((raw.take 30).drop (k + 1)).foldl (fun c x => stepC x c) (planR sh hh c.1 c.2.1 c.2.2).2)
          have HGR := Lib.hid (planR_len sh hh c.1 c.2.1 c.2.2)
          generalize planR sh hh c.1 c.2.1 c.2.2 = rr at *
          go_wp2_with fail
          refine HCL.out.mono ?_
          rintro e W5 ⟨u1, u2, rfl, ho1, ho2, hb1⟩
          obtain ⟨A5, c5, rfl⟩ := Kd.R_slice ho1
          obtain ⟨A6, c6, rfl⟩ := Kd.R_slice ho2
          have HA5 := Lib.hid (kept_on hb1 HA.out)
          have HCS5 := Lib.hid (CS_of HGW.out HA5.out (kept_on hb1 HZ.out) (Kd.R_lower ho1 HB.out.size) (Kd.R_lower ho2 HB.out.size) (below_then HB.out HB.out.size hb1))
          clear a0 a1 a2 a3 a4 a5 a6 ho1 ho2 hb1 HCL h0 h1 h2
          obtain ⟨a0, a1, a2, a3, a4, a5, a6⟩ := three_cells HA5.out
          go_wp2
          go_roundw
          case rel => exact ⟨k + 1, rr.2, by omega, by omega, by go_num, by have := HGR.out.1; omega, by have := HGR.out.2; omega, ⟨HRE.out⟩, ⟨HCS5.out⟩⟩
          case measure => simp [intOf]; omega
        · have HCL := Lib.hid (commitR_calls sh c.1 A3 c3 c.2.1 A4 c4 c.2.2 wr (Kd.R_reads' HO.out).2.2 (Kd.R_reads' HP.out).2.2 (by omega) (by omega))
          have HRE := Lib.hid (HE2.out.trans (by rw [show stepC x c = (commitR sh c.1 c.2.1 c.2.2).2 by rw [HSC.out]; rfl]) : r = ((raw.take 30).drop (k + 1)).foldl (fun c x => stepC x c) (commitR sh c.1 c.2.1 c.2.2).2)
          have HGR := Lib.hid (commitR_len sh c.1 c.2.1 c.2.2)
          generalize commitR sh c.1 c.2.1 c.2.2 = rr at *
          go_wp2_with fail
          refine HCL.out.mono ?_
          rintro e W5 ⟨u1, u2, rfl, ho1, ho2, hb1⟩
          obtain ⟨A5, c5, rfl⟩ := Kd.R_slice ho1
          obtain ⟨A6, c6, rfl⟩ := Kd.R_slice ho2
          have HA5 := Lib.hid (kept_on hb1 HA.out)
          have HCS5 := Lib.hid (CS_of HGW.out HA5.out (kept_on hb1 HZ.out) (Kd.R_lower ho1 HB.out.size) (Kd.R_lower ho2 HB.out.size) (below_then HB.out HB.out.size hb1))
          clear a0 a1 a2 a3 a4 a5 a6 ho1 ho2 hb1 HCL h0 h1 h2
          obtain ⟨a0, a1, a2, a3, a4, a5, a6⟩ := three_cells HA5.out
          go_wp2
          go_roundw
          case rel => exact ⟨k + 1, rr.2, by omega, by omega, by go_num, by have := HGR.out.1; omega, by have := HGR.out.2; omega, ⟨HRE.out⟩, ⟨HCS5.out⟩⟩
          case measure => simp [intOf]; omega
        · have HCL := Lib.hid (cancelR_calls sh c.1 A3 c3 c.2.1 A4 c4 c.2.2 wr (Kd.R_reads' HO.out).2.2 (Kd.R_reads' HP.out).2.2 (by omega) (by omega))
          have HRE := Lib.hid (HE2.out.trans (by rw [show stepC x c = (cancelR sh c.1 c.2.1 c.2.2).2 by rw [HSC.out]; rfl]) : r = ((raw.take 30).drop (k + 1)).foldl (fun c x => stepC x c) (cancelR sh c.1 c.2.1 c.2.2).2)
          have HGR := Lib.hid (cancelR_len sh c.1 c.2.1 c.2.2)
          generalize cancelR sh c.1 c.2.1 c.2.2 = rr at *
          go_wp2_with fail
          refine HCL.out.mono ?_
          rintro e W5 ⟨u1, u2, rfl, ho1, ho2, hb1⟩
          obtain ⟨A5, c5, rfl⟩ := Kd.R_slice ho1
          obtain ⟨A6, c6, rfl⟩ := Kd.R_slice ho2
          have HA5 := Lib.hid (kept_on hb1 HA.out)
          have HCS5 := Lib.hid (CS_of HGW.out HA5.out (kept_on hb1 HZ.out) (Kd.R_lower ho1 HB.out.size) (Kd.R_lower ho2 HB.out.size) (below_then HB.out HB.out.size hb1))
          clear a0 a1 a2 a3 a4 a5 a6 ho1 ho2 hb1 HCL h0 h1 h2
          obtain ⟨a0, a1, a2, a3, a4, a5, a6⟩ := three_cells HA5.out
          go_wp2
          go_roundw
          case rel => exact ⟨k + 1, rr.2, by omega, by omega, by go_num, by have := HGR.out.1; omega, by have := HGR.out.2; omega, ⟨HRE.out⟩, ⟨HCS5.out⟩⟩
          case measure => simp [intOf]; omega
      · have hd : (raw.take 30).drop k = [] := List.drop_eq_nil_of_le (by rw [List.length_take]; omega)
        have HRr := Lib.hid (HE.out.trans (by rw [hd]; rfl) : r = c)
        clear hd
        obtain ⟨z0, z1, z2, z3, z4, z5, z6⟩ := three_cells HZ.out
        go_wp2
        exact ret_C1 (g := w.heap.size) Try.results15 rfl rfl (own_set HZ.out c.1 (.slice A3 c.2.1.length c3) (.slice A4 c.2.2.length c4)) ⟨_, _, by rw [HRr.out], by rw [HRr.out]; exact own_R HO.out HZ.out (Nat.le_refl _) (by decide), by rw [HRr.out]; exact own_R HP.out HZ.out (Nat.le_refl _) (by decide), below_set (below_set (below_set HB.out (Nat.le_refl _)) (Nat.le_refl _)) (Nat.le_refl _)⟩
    · have hd : (raw.take 30).drop k = [] := List.drop_eq_nil_of_le (by rw [List.length_take]; omega)
      have HRr := Lib.hid (HE.out.trans (by rw [hd]; rfl) : r = c)
      clear hd
      obtain ⟨z0, z1, z2, z3, z4, z5, z6⟩ := three_cells HZ.out
      go_wp2
      exact ret_C1 (g := w.heap.size) Try.results15 rfl rfl (own_set HZ.out c.1 (.slice A3 c.2.1.length c3) (.slice A4 c.2.2.length c4)) ⟨_, _, by rw [HRr.out], by rw [HRr.out]; exact own_R HO.out HZ.out (Nat.le_refl _) (by decide), by rw [HRr.out]; exact own_R HP.out HZ.out (Nat.le_refl _) (by decide), below_set (below_set (below_set HB.out (Nat.le_refl _)) (Nat.le_refl _)) (Nat.le_refl _)⟩
end Go.Proofs.Ytdbgpakmbjhmgaa.H

/- What a law's walk holds: controllers, each in a block. -/
namespace Go.Proofs.Ytdbgpakmbjhmgaa.H
open Go.RowKit Go.Proofs.YtdbgpakmbjhmgaaW.PrintWords Go.Proofs.YtdbgpakmbjhmgaaW.PrintLast Go.Proofs.YtdbgpakmbjhmgaaW.PrintMore
set_option linter.unusedVariables false
set_option linter.unusedSimpArgs false

def Short (c : Ctl) : Prop := c.2.1.length ≤ 1000 ∧ c.2.2.length ≤ 1000
def HoldsC (g : Nat) (c : Ctl) (W : World) : Prop :=
  ∃ A1 c1 A2 c2, W.heap[g]? = some (.cells #[.int .i64 c.1, .slice A1 c.2.1.length c1, .slice A2 c.2.2.length c2] 26 (0, 0)) ∧ Kd.C k45 W A1 c.2.1.length c.2.1 ∧ Kd.C k48 W A2 c.2.2.length c.2.2 ∧ c.2.1.length * 16 ≤ 140737488355328 ∧ c.2.2.length * 24 ≤ 140737488355328
theorem HoldsC.below {g : Nat} {c : Ctl} {W W' : World} (h : HoldsC g c W) (hb : Below W.heap.size W W') : HoldsC g c W' := by
  obtain ⟨A1, c1, A2, c2, h1, h2, h3, h4⟩ := h
  exact ⟨A1, c1, A2, c2, kept_on hb h1, Kd.C_below h2 hb, Kd.C_below h3 hb, h4⟩
def Hs (w : World) (L : List (Nat × Ctl)) (W : World) : Prop := Below w.heap.size w W ∧ ∀ x ∈ L, HoldsC x.1 x.2 W
theorem Hs.below {w W W' : World} {L : List (Nat × Ctl)} (h : Hs w L W) (hb : Below W.heap.size W W') : Hs w L W' :=
  ⟨below_then h.1 h.1.size hb, fun x hx => (h.2 x hx).below hb⟩
theorem Hs.drew {w W : World} {L : List (Nat × Ctl)} (h : Hs w L W) : Hs w L W.drew := h.below (below_drew (Below.refl _ _))
theorem Hs.alloc {w W : World} {L : List (Nat × Ctl)} (h : Hs w L W) (o : Obj) : Hs w L (W.alloc o) := h.below (below_alloc (Below.refl _ _) o)
theorem Hs.sub {w W : World} {L L' : List (Nat × Ctl)} (h : Hs w L W) (hs : ∀ x ∈ L', x ∈ L) : Hs w L' W := ⟨h.1, fun x hx => h.2 x (hs x hx)⟩
theorem Hs.start (w : World) : Hs w [] w := ⟨Below.refl _ _, fun _ h => by cases h⟩
/-- A controller that a call gave is laid into a new block. -/
theorem Hs.new {w W W1 : World} {L : List (Nat × Ctl)} {c : Ctl} {A1 A2 : Option Addr} {c1 c2 : Nat} (h : Hs w L W) (hb : Below W.heap.size W W1) (h1 : Kd.C k45 W1 A1 c.2.1.length c.2.1) (h2 : Kd.C k48 W1 A2 c.2.2.length c.2.2) (hs : Short c) :
    Hs w ((W1.heap.size, c) :: L) (W1.alloc (.cells #[.int .i64 c.1, .slice A1 c.2.1.length c1, .slice A2 c.2.2.length c2] 26)) := by
  have h' := (h.below hb).alloc (.cells #[.int .i64 c.1, .slice A1 c.2.1.length c1, .slice A2 c.2.2.length c2] 26)
  refine ⟨h'.1, fun x hx => ?_⟩
  rcases List.mem_cons.1 hx with e | e
  · subst e
    have hb2 := below_alloc (Below.refl W1.heap.size W1) (.cells #[.int .i64 c.1, .slice A1 c.2.1.length c1, .slice A2 c.2.2.length c2] 26)
    obtain ⟨s1, s2⟩ := hs
    exact ⟨A1, c1, A2, c2, heap_alloc_new _ _, Kd.C_below h1 hb2, Kd.C_below h2 hb2, (show c.2.1.length * 16 ≤ 140737488355328 by omega), (show c.2.2.length * 24 ≤ 140737488355328 by omega)⟩
  · exact h'.2 x e
theorem nil_C (W : World) : Kd.C k45 W none 0 [] ∧ Kd.C k48 W none 0 [] :=
  ⟨(Kd.R_reads' (Kd.R_nil k45 45 W 0 (fun _ => True))).2.2, (Kd.R_reads' (Kd.R_nil k48 48 W 0 (fun _ => True))).2.2⟩
/-- What a command gives: an error's number and a controller. -/
def Got (r : Int × Ctl) (w : World) (e : Ending) (w' : World) : Prop :=
  ∃ A1 c1 A2 c2, e = .returned (.tuple #[.agg #[.int .i64 r.2.1, .slice A1 r.2.2.1.length c1, .slice A2 r.2.2.2.length c2], .int .i64 r.1]) ∧ Kd.C k45 w' A1 r.2.2.1.length r.2.2.1 ∧ Kd.C k48 w' A2 r.2.2.2.length r.2.2.2 ∧ Below w.heap.size w w'
theorem got_of {r : Int × Ctl} {w : World} {e : Ending} {w' : World} (h : ∃ v1 v2, e = .returned (.tuple #[.agg #[.int .i64 r.2.1, v1, v2], .int .i64 r.1]) ∧ Kd.R k45 45 w' w.heap.size (fun _ => True) v1 r.2.2.1 ∧ Kd.R k48 48 w' w.heap.size (fun _ => True) v2 r.2.2.2 ∧ Below w.heap.size w w') : Got r w e w' := by
  obtain ⟨v1, v2, rfl, h1, h2, h3⟩ := h
  obtain ⟨A1, c1, rfl⟩ := Kd.R_slice h1
  obtain ⟨A2, c2, rfl⟩ := Kd.R_slice h2
  exact ⟨A1, c1, A2, c2, rfl, (Kd.R_reads' h1).2.2, (Kd.R_reads' h2).2.2, h3⟩
/-- What New gives. -/
def Got1 (c : Ctl) (w : World) (e : Ending) (w' : World) : Prop :=
  ∃ A1 c1 A2 c2, e = .returned (.agg #[.int .i64 c.1, .slice A1 c.2.1.length c1, .slice A2 c.2.2.length c2]) ∧ Kd.C k45 w' A1 c.2.1.length c.2.1 ∧ Kd.C k48 w' A2 c.2.2.length c.2.2 ∧ Below w.heap.size w w'
theorem got1_of {c : Ctl} {w : World} {e : Ending} {w' : World} (h : ∃ v1 v2, e = .returned (.agg #[.int .i64 c.1, v1, v2]) ∧ Kd.R k45 45 w' w.heap.size (fun _ => True) v1 c.2.1 ∧ Kd.R k48 48 w' w.heap.size (fun _ => True) v2 c.2.2 ∧ Below w.heap.size w w') : Got1 c w e w' := by
  obtain ⟨v1, v2, rfl, h1, h2, h3⟩ := h
  obtain ⟨A1, c1, rfl⟩ := Kd.R_slice h1
  obtain ⟨A2, c2, rfl⟩ := Kd.R_slice h2
  exact ⟨A1, c1, A2, c2, rfl, (Kd.R_reads' h1).2.2, (Kd.R_reads' h2).2.2, h3⟩
end Go.Proofs.Ytdbgpakmbjhmgaa.H

/- The law's awake: the first calls answer as fixed. -/
namespace Go.Proofs.Ytdbgpakmbjhmgaa.H
open Go.RowKit Go.Proofs.YtdbgpakmbjhmgaaW.PrintWords Go.Proofs.YtdbgpakmbjhmgaaW.PrintLast Go.Proofs.YtdbgpakmbjhmgaaW.PrintMore
set_option linter.unusedVariables false
set_option linter.unusedSimpArgs false

namespace Aw
def a0 : Ctl := newC 3 1 1
def a1 : Int × Ctl := joinC 2 2 a0.1 a0.2.1 a0.2.2
def a2 : Int × Ctl := finC a1.2.1 a1.2.2.1 a1.2.2.2
def a3 : Int × Ctl := reportC 1 2 a1.2.1 a1.2.2.1 a1.2.2.2
def a4 : Int × Ctl := finC a3.2.1 a3.2.2.1 a3.2.2.2
def a5 : Int × Ctl := reportC 1 1 a4.2.1 a4.2.2.1 a4.2.2.2
def a6 : Int × Ctl := joinC 3 1 a4.2.1 a4.2.2.1 a4.2.2.2
def a7 : Int × Int × Bool := balanceC a4.2.1 a4.2.2.1 a4.2.2.2
def a8 : Int × Ctl := planC 0 2 a4.2.1 a4.2.2.1 a4.2.2.2
def a9 : Int × Ctl := planC 0 2 a8.2.1 a8.2.2.1 a8.2.2.2
def a10 : Int × Ctl := commitC 0 a8.2.1 a8.2.2.1 a8.2.2.2
def a11 : Int × Ctl := cancelC 0 a10.2.1 a10.2.2.1 a10.2.2.2
theorem vals : (a1.1 == 0) = true ∧ (a2.1 == 22) = true ∧ (a3.1 == 0) = true ∧ (a4.1 == 0) = true ∧ (a4.2.1 == 2) = true ∧ (a5.1 == 22) = true ∧ (a6.1 == 22) = true ∧ (a7.1 == 0) = true ∧ (a7.2.1 == 2) = true ∧ a7.2.2 = true ∧ (a8.1 == 0) = true ∧ (a9.1 == 92) = true ∧ (a10.1 == 0) = true ∧ (a11.1 == 70) = true ∧ ((a10.2.2.2.length : Int) != 3) = false := by decide +kernel
theorem vals2 : rd_T48 a10.2.2.2 0 = ⟨2, 2, 0⟩ ∧ a10.2.2.2.length = 3 ∧ rightC a10.2.1 a10.2.2.1 a10.2.2.2 = true ∧ rightC 0 [] [] = false := by decide +kernel
theorem sh1 : Short a1.2 := by unfold Short; decide +kernel
theorem sh2 : Short a2.2 := by unfold Short; decide +kernel
theorem sh3 : Short a3.2 := by unfold Short; decide +kernel
theorem sh4 : Short a4.2 := by unfold Short; decide +kernel
theorem sh5 : Short a5.2 := by unfold Short; decide +kernel
theorem sh6 : Short a6.2 := by unfold Short; decide +kernel
theorem sh8 : Short a8.2 := by unfold Short; decide +kernel
theorem sh9 : Short a9.2 := by unfold Short; decide +kernel
theorem sh10 : Short a10.2 := by unfold Short; decide +kernel
theorem sh11 : Short a11.2 := by unfold Short; decide +kernel
end Aw
open Aw

set_option maxHeartbeats 4000000 in
set_option maxRecDepth 100000 in
theorem awake_calls (w : World) : Calls Try.prog 10 #[] w fun e w' => e = .returned (.bool true) ∧ Below w.heap.size w w' := by
  have HS0 := Lib.hid (Hs.start w)
  have HN := Lib.hid ((new_calls 3 1 1 w).mono (fun _ _ h => (got1_of h : Got1 a0 _ _ _)))
  go_enter Try.func10, Try.ntmps10
  go_upto_region 1 with (fail)
  go_cut [1, 2] (fun p e W => e = .int .i64 a1.1 ∧ ∃ g, p = .pointer (some ⟨g, 0, none⟩) ∧ Aside0 (Hs w [(g, a1.2)] W))
  case first =>
    go_wp2_with fail
    refine HN.out.mono ?_
    rintro e W0 ⟨A1, c1, A2, c2, rfl, ho, hp, hb⟩
    have HC := Lib.hid ((join_calls 2 2 a0.1 A1 c1 a0.2.1 A2 c2 a0.2.2 _ ho hp (by decide +kernel) (by decide +kernel)).mono (fun _ _ h => (got_of h : Got a1 _ _ _)))
    have HB := Lib.hid hb
    clear ho hp hb
    go_wp2_with fail
    refine HC.out.mono ?_
    rintro e W1 ⟨A3, c3, A4, c4, rfl, ho, hp, hb⟩
    go_wp2
    go_meet
    case rel => exact ⟨rfl, _, rfl, ⟨Hs.new (HS0.out.below HB.out) hb ho hp sh1⟩⟩
  obtain ⟨rfl, g1, rfl, HS1⟩ := hcut
  -- Finalise
  obtain ⟨A1, c1, A2, c2, hgk, hck, hdk, hlk, hmk⟩ := HS1.out.2 (g1, a1.2) (by simp)
  obtain ⟨k0, k1, k2, _, _, _, kl⟩ := three_cells hgk
  have HC := Lib.hid ((finalise_calls  a1.2.1 A1 c1 a1.2.2.1 A2 c2 a1.2.2.2 _ hck hdk hlk hmk).mono (fun _ _ h => (got_of h : Got (a2) _ _ _)))
  clear hgk hck hdk hlk hmk
  go_upto_region 2 with (fail)
  go_cut [3, 4] (fun p e W => e = .int .i64 (a2).1 ∧ ∃ g, p = .pointer (some ⟨g, 0, none⟩) ∧ Aside0 (Hs w ((g, (a2).2) :: [(g1, a1.2)]) W))
  case first =>
    go_wp2_with fail
    refine HC.out.mono ?_
    rintro e W1 ⟨A3, c3, A4, c4, rfl, ho, hp, hb⟩
    go_wp2
    go_meet
    case rel => exact ⟨rfl, _, rfl, ⟨Hs.new HS1.out hb ho hp sh2⟩⟩
  clear HC k0 k1 k2 kl
  obtain ⟨rfl, g2, rfl, HS2⟩ := hcut
  -- Report
  obtain ⟨A1, c1, A2, c2, hgk, hck, hdk, hlk, hmk⟩ := HS2.out.2 (g1, a1.2) (by simp)
  obtain ⟨k0, k1, k2, _, _, _, kl⟩ := three_cells hgk
  have HC := Lib.hid ((report_calls 1 2 a1.2.1 A1 c1 a1.2.2.1 A2 c2 a1.2.2.2 _ hck hdk hlk hmk).mono (fun _ _ h => (got_of h : Got (a3) _ _ _)))
  clear hgk hck hdk hlk hmk
  go_upto_region 3 with (fail)
  go_cut [5, 6] (fun p e W => e = .int .i64 (a3).1 ∧ ∃ g, p = .pointer (some ⟨g, 0, none⟩) ∧ Aside0 (Hs w ((g, (a3).2) :: [(g2, a2.2), (g1, a1.2)]) W))
  case first =>
    go_wp2_with fail
    refine HC.out.mono ?_
    rintro e W1 ⟨A3, c3, A4, c4, rfl, ho, hp, hb⟩
    go_wp2
    go_meet
    case rel => exact ⟨rfl, _, rfl, ⟨Hs.new HS2.out hb ho hp sh3⟩⟩
  clear HC k0 k1 k2 kl
  obtain ⟨rfl, g3, rfl, HS3⟩ := hcut
  have HS3' := Lib.hid (HS3.out.sub (L' := [(g3, a3.2)]) (by simp)); clear HS3
  -- Finalise
  obtain ⟨A1, c1, A2, c2, hgk, hck, hdk, hlk, hmk⟩ := HS3'.out.2 (g3, a3.2) (by simp)
  obtain ⟨k0, k1, k2, _, _, _, kl⟩ := three_cells hgk
  have HC := Lib.hid ((finalise_calls  a3.2.1 A1 c1 a3.2.2.1 A2 c2 a3.2.2.2 _ hck hdk hlk hmk).mono (fun _ _ h => (got_of h : Got (a4) _ _ _)))
  clear hgk hck hdk hlk hmk
  go_upto_region 4 with (fail)
  go_cut [7, 8] (fun p e W => e = .int .i64 (a4).1 ∧ ∃ g, p = .pointer (some ⟨g, 0, none⟩) ∧ Aside0 (Hs w ((g, (a4).2) :: [(g3, a3.2)]) W))
  case first =>
    go_wp2_with fail
    refine HC.out.mono ?_
    rintro e W1 ⟨A3, c3, A4, c4, rfl, ho, hp, hb⟩
    go_wp2
    go_meet
    case rel => exact ⟨rfl, _, rfl, ⟨Hs.new HS3'.out hb ho hp sh4⟩⟩
  clear HC k0 k1 k2 kl
  obtain ⟨rfl, g4, rfl, HS4⟩ := hcut
  have HS4' := Lib.hid (HS4.out.sub (L' := [(g4, a4.2)]) (by simp)); clear HS4
  -- Report
  obtain ⟨A1, c1, A2, c2, hgk, hck, hdk, hlk, hmk⟩ := HS4'.out.2 (g4, a4.2) (by simp)
  obtain ⟨k0, k1, k2, _, _, _, kl⟩ := three_cells hgk
  have HC := Lib.hid ((report_calls 1 1 a4.2.1 A1 c1 a4.2.2.1 A2 c2 a4.2.2.2 _ hck hdk hlk hmk).mono (fun _ _ h => (got_of h : Got (a5) _ _ _)))
  clear hgk hck hdk hlk hmk
  go_upto_region 5 with (fail)
  go_cut [9, 10] (fun p e W => e = .int .i64 (a5).1 ∧ ∃ g, p = .pointer (some ⟨g, 0, none⟩) ∧ Aside0 (Hs w ((g, (a5).2) :: [(g4, a4.2)]) W))
  case first =>
    go_wp2_with fail
    refine HC.out.mono ?_
    rintro e W1 ⟨A3, c3, A4, c4, rfl, ho, hp, hb⟩
    go_wp2
    go_meet
    case rel => exact ⟨rfl, _, rfl, ⟨Hs.new HS4'.out hb ho hp sh5⟩⟩
  clear HC k0 k1 k2 kl
  obtain ⟨rfl, g5, rfl, HS5⟩ := hcut
  -- Join
  obtain ⟨A1, c1, A2, c2, hgk, hck, hdk, hlk, hmk⟩ := HS5.out.2 (g4, a4.2) (by simp)
  obtain ⟨k0, k1, k2, _, _, _, kl⟩ := three_cells hgk
  have HC := Lib.hid ((join_calls 3 1 a4.2.1 A1 c1 a4.2.2.1 A2 c2 a4.2.2.2 _ hck hdk hlk hmk).mono (fun _ _ h => (got_of h : Got (a6) _ _ _)))
  clear hgk hck hdk hlk hmk
  go_upto_region 6 with (fail)
  go_cut [11, 12] (fun p e W => e = .int .i64 (a6).1 ∧ ∃ g, p = .pointer (some ⟨g, 0, none⟩) ∧ Aside0 (Hs w ((g, (a6).2) :: [(g5, a5.2), (g4, a4.2)]) W))
  case first =>
    go_wp2_with fail
    refine HC.out.mono ?_
    rintro e W1 ⟨A3, c3, A4, c4, rfl, ho, hp, hb⟩
    go_wp2
    go_meet
    case rel => exact ⟨rfl, _, rfl, ⟨Hs.new HS5.out hb ho hp sh6⟩⟩
  clear HC k0 k1 k2 kl
  obtain ⟨rfl, g6, rfl, HS6⟩ := hcut
  have HS6' := Lib.hid (HS6.out.sub (L' := [(g4, a4.2)]) (by simp)); clear HS6
  obtain ⟨A1, c1, A2, c2, hgk, hck, hdk, hlk, hmk⟩ := HS6'.out.2 (g4, a4.2) (by simp)
  obtain ⟨k0, k1, k2, _, _, _, kl⟩ := three_cells hgk
  have HC := Lib.hid ((balance_calls a4.2.1 A1 c1 a4.2.2.1 A2 c2 a4.2.2.2 _ hck hdk).mono (fun _ _ h => (h : _ = Ending.returned (.tuple #[.int .i64 a7.1, .int .i64 a7.2.1, .bool a7.2.2]) ∧ Below _ _ _)))
  clear hgk hck hdk hlk hmk
  go_upto_region 7 with (fail)
  go_cut [13, 14, 15] (fun x y z W => x = .int .i64 a7.1 ∧ y = .int .i64 a7.2.1 ∧ z = .bool a7.2.2 ∧ Aside0 (Hs w [(g4, a4.2)] W))
  case first =>
    go_wp2_with fail
    refine HC.out.mono ?_
    rintro e W1 ⟨rfl, hb⟩
    go_wp2
    go_meet
    case rel => exact ⟨rfl, rfl, rfl, ⟨HS6'.out.below hb⟩⟩
  clear HC k0 k1 k2 kl
  obtain ⟨rfl, rfl, rfl, HS7⟩ := hcut
  -- Plan
  obtain ⟨A1, c1, A2, c2, hgk, hck, hdk, hlk, hmk⟩ := HS7.out.2 (g4, a4.2) (by simp)
  obtain ⟨k0, k1, k2, _, _, _, kl⟩ := three_cells hgk
  have HC := Lib.hid ((plan_calls 0 2 a4.2.1 A1 c1 a4.2.2.1 A2 c2 a4.2.2.2 _ hck hdk hlk hmk).mono (fun _ _ h => (got_of h : Got (a8) _ _ _)))
  clear hgk hck hdk hlk hmk
  go_upto_region 8 with (fail)
  go_cut [16, 17] (fun p e W => e = .int .i64 (a8).1 ∧ ∃ g, p = .pointer (some ⟨g, 0, none⟩) ∧ Aside0 (Hs w ((g, (a8).2) :: [(g4, a4.2)]) W))
  case first =>
    go_wp2_with fail
    refine HC.out.mono ?_
    rintro e W1 ⟨A3, c3, A4, c4, rfl, ho, hp, hb⟩
    go_wp2
    go_meet
    case rel => exact ⟨rfl, _, rfl, ⟨Hs.new HS7.out hb ho hp sh8⟩⟩
  clear HC k0 k1 k2 kl
  obtain ⟨rfl, g8, rfl, HS8⟩ := hcut
  -- Plan
  obtain ⟨A1, c1, A2, c2, hgk, hck, hdk, hlk, hmk⟩ := HS8.out.2 (g8, a8.2) (by simp)
  obtain ⟨k0, k1, k2, _, _, _, kl⟩ := three_cells hgk
  have HC := Lib.hid ((plan_calls 0 2 a8.2.1 A1 c1 a8.2.2.1 A2 c2 a8.2.2.2 _ hck hdk hlk hmk).mono (fun _ _ h => (got_of h : Got (a9) _ _ _)))
  clear hgk hck hdk hlk hmk
  go_upto_region 9 with (fail)
  go_cut [18, 19] (fun p e W => e = .int .i64 (a9).1 ∧ ∃ g, p = .pointer (some ⟨g, 0, none⟩) ∧ Aside0 (Hs w ((g, (a9).2) :: [(g8, a8.2), (g4, a4.2)]) W))
  case first =>
    go_wp2_with fail
    refine HC.out.mono ?_
    rintro e W1 ⟨A3, c3, A4, c4, rfl, ho, hp, hb⟩
    go_wp2
    go_meet
    case rel => exact ⟨rfl, _, rfl, ⟨Hs.new HS8.out hb ho hp sh9⟩⟩
  clear HC k0 k1 k2 kl
  obtain ⟨rfl, g9, rfl, HS9⟩ := hcut
  -- Commit
  obtain ⟨A1, c1, A2, c2, hgk, hck, hdk, hlk, hmk⟩ := HS9.out.2 (g8, a8.2) (by simp)
  obtain ⟨k0, k1, k2, _, _, _, kl⟩ := three_cells hgk
  have HC := Lib.hid ((commit_calls 0 a8.2.1 A1 c1 a8.2.2.1 A2 c2 a8.2.2.2 _ hck hdk hlk hmk).mono (fun _ _ h => (got_of h : Got (a10) _ _ _)))
  clear hgk hck hdk hlk hmk
  go_upto_region 10 with (fail)
  go_cut [20, 21] (fun p e W => e = .int .i64 (a10).1 ∧ ∃ g, p = .pointer (some ⟨g, 0, none⟩) ∧ Aside0 (Hs w ((g, (a10).2) :: [(g9, a9.2), (g8, a8.2), (g4, a4.2)]) W))
  case first =>
    go_wp2_with fail
    refine HC.out.mono ?_
    rintro e W1 ⟨A3, c3, A4, c4, rfl, ho, hp, hb⟩
    go_wp2
    go_meet
    case rel => exact ⟨rfl, _, rfl, ⟨Hs.new HS9.out hb ho hp sh10⟩⟩
  clear HC k0 k1 k2 kl
  obtain ⟨rfl, g10, rfl, HS10⟩ := hcut
  have HS10' := Lib.hid (HS10.out.sub (L' := [(g10, a10.2), (g4, a4.2)]) (by simp)); clear HS10
  -- Cancel
  obtain ⟨A1, c1, A2, c2, hgk, hck, hdk, hlk, hmk⟩ := HS10'.out.2 (g10, a10.2) (by simp)
  obtain ⟨k0, k1, k2, _, _, _, kl⟩ := three_cells hgk
  have HC := Lib.hid ((cancel_calls 0 a10.2.1 A1 c1 a10.2.2.1 A2 c2 a10.2.2.2 _ hck hdk hlk hmk).mono (fun _ _ h => (got_of h : Got (a11) _ _ _)))
  clear hgk hck hdk hlk hmk
  go_upto_region 11 with (fail)
  go_cut [22, 23] (fun p e W => e = .int .i64 (a11).1 ∧ ∃ g, p = .pointer (some ⟨g, 0, none⟩) ∧ Aside0 (Hs w ((g, (a11).2) :: [(g10, a10.2), (g4, a4.2)]) W))
  case first =>
    go_wp2_with fail
    refine HC.out.mono ?_
    rintro e W1 ⟨A3, c3, A4, c4, rfl, ho, hp, hb⟩
    go_wp2
    go_meet
    case rel => exact ⟨rfl, _, rfl, ⟨Hs.new HS10'.out hb ho hp sh11⟩⟩
  clear HC k0 k1 k2 kl
  obtain ⟨rfl, g11, rfl, HS11⟩ := hcut
  obtain ⟨q1, q2, q3, q4, q5, q6, q7, q8, q9, q10, q11, q12, q13, q14, q15⟩ := vals
  obtain ⟨A1, c1, A2, c2, hgk, hck, hdk, hlk, hmk⟩ := HS11.out.2 (g10, a10.2) (by simp)
  obtain ⟨k0, k1, k2, _, _, _, kl⟩ := three_cells hgk
  obtain ⟨B1, d1, B2, d2, hgj, hcj, hdj, hlj, hmj⟩ := HS11.out.2 (g4, a4.2) (by simp)
  obtain ⟨j0, j1, j2, _, _, _, jl⟩ := three_cells hgj
  have hn3 : a10.2.2.2.length = 3 := vals2.2.1
  obtain ⟨ad, hA, p0, p1, p2⟩ := at_T48 hdk 0 (by omega) (by rw [hn3]; decide)
  subst hA
  rw [vals2.1] at p0 p1 p2
  have e0 : ad.add ((0 : Int).toNat * 3) = ad := by simp [Addr.add]
  rw [e0] at p0 p1 p2
  have HR := Lib.hid (right_calls a10.2.1 A1 c1 a10.2.2.1 (some ad) c2 a10.2.2.2 _ hck hdk)
  rw [vals2.2.2.1] at HR
  have hlen : (0 : Int) < (a10.2.2.2.length : Int) := by rw [hn3]; decide
  have HN3 := Lib.hid hn3
  clear hgk hck hdk hlk hmk hgj hcj hdj hlj hmj e0 hn3
  clear HN HS0 HS1 HS2 HS3' HS4' HS5 HS6' HS7 HS8 HS9 HS10'
  go_wp2_with fail
  refine HR.out.mono ?_
  rintro e W1 ⟨rfl, hb1⟩
  have HR2 := Lib.hid (right_calls 0 none 0 [] none 0 [] W1 (nil_C W1).1 (nil_C W1).2)
  rw [vals2.2.2.2] at HR2
  have HF := Lib.hid (HS11.out.below hb1)
  clear hb1 HR HS11
  go_wp2_with fail
  refine HR2.out.mono ?_
  rintro e W2 ⟨rfl, hb2⟩
  go_wp2
  go_ret
  exact ⟨rfl, (HF.out.below hb2).1⟩
end Go.Proofs.Ytdbgpakmbjhmgaa.H
