/- Parts of the proof, merged: Dj, Dl, Dm, Dp, Dq, Do, Dk. -/
import Derived.Test.YtdbgpakmbjhmgaaK3
import Derived.Deep.RegionLaw
/- The document's Join. -/
namespace Go.Proofs.Ytdbgpakmbjhmgaa.H
open Go.RowKit Go.Proofs.YtdbgpakmbjhmgaaW.PrintWords Go.Proofs.YtdbgpakmbjhmgaaW.PrintLast Go.Proofs.YtdbgpakmbjhmgaaW.PrintMore
set_option linter.unusedVariables false
set_option linter.unusedSimpArgs false


/-- The controller a that is being put together at ga; c lies as it came. -/
def RS (w : World) (ga : Nat) (lv : Int) (A1 : Option Addr) (n1 c1 : Nat) (A2 : Option Addr) (n2 c2 : Nat) (ps : List S48) (acc : List S45) (W : World) : Prop :=
  ∃ A5 c5 v4, W.heap[ga]? = some (.cells #[.int .i64 lv, .slice A5 acc.length c5, v4] 26 (0, 0)) ∧ W.heap[w.heap.size + 1]? = some (.cells #[.int .i64 0, .slice none 0 0, .slice none 0 0] 26 (0, 0)) ∧
    W.heap[w.heap.size]? = some (.cells #[.int .i64 lv, .slice A1 n1 c1, .slice A2 n2 c2] 26 (0, 0)) ∧ Kd.R k45 45 W w.heap.size (fun _ => True) (.slice A5 acc.length c5) acc ∧ Kd.R k48 48 W w.heap.size (fun _ => True) v4 ps ∧ Below w.heap.size w W
theorem RS_push {w W w1 : World} {ga n1 c1 n2 c2 c5 : Nat} {lv : Int} {A1 A2 A5 : Option Addr} {ps : List S48} {acc : List S45} {v4 : Value} {A6 : Option Addr} {c6 n : Nat} {x : S45} (hn : n = (acc ++ [x]).length) (h1 : w.heap.size + 2 ≤ ga)
    (ha : W.heap[ga]? = some (.cells #[.int .i64 lv, .slice A5 acc.length c5, v4] 26 (0, 0))) (hz : W.heap[w.heap.size + 1]? = some (.cells #[.int .i64 0, .slice none 0 0, .slice none 0 0] 26 (0, 0)))
    (hk : W.heap[w.heap.size]? = some (.cells #[.int .i64 lv, .slice A1 n1 c1, .slice A2 n2 c2] 26 (0, 0))) (ho : Kd.R k45 45 W w.heap.size (fun _ => True) (.slice A5 acc.length c5) acc) (hp : Kd.R k48 48 W w.heap.size (fun _ => True) v4 ps)
    (hg : W.grownBy w1 (Value.slice A5 acc.length c5).ownBlock) (ho1 : Kd.R k45 45 w1 w.heap.size (fun _ => True) (.slice A6 (acc ++ [x]).length c6) (acc ++ [x])) (hb1 : Below w.heap.size w w1) :
    RS w ga lv A1 n1 c1 A2 n2 c2 ps (acc ++ [x]) (w1.setCell ⟨ga, 1, none⟩ (.slice A6 n c6)) := by
  subst hn
  have a1 := (hg.block ga (blk_lt ha) (Kd.R_ne ho ha (by decide))).trans ha
  have z1 := (hg.block _ (blk_lt hz) (Kd.R_ne ho hz (by decide))).trans hz
  have k1 := (hg.block _ (blk_lt hk) (Kd.R_ne ho hk (by decide))).trans hk
  refine ⟨A6, c6, v4, by simpa using blk_set a1 1 (.slice A6 (acc ++ [x]).length c6), blk_other z1 _ _ (by show w.heap.size + 1 ≠ ga; omega), blk_other k1 _ _ (by show w.heap.size ≠ ga; omega), Kd.R_set ho1 a1 (by decide) _ _, ?_, below_set hb1 (by omega)⟩
  exact Kd.R_set (Kd.R_over' hp (Kd.R_typed ho) (by decide) hg) a1 (by decide) _ _

def insGo (x : S45) : List S45 → Bool → List S45
  | [], d => if d = true then [] else [x]
  | m :: ms, d => if (!d && decide (x.f0 < m.f0)) = true then x :: m :: insGo x ms true else m :: insGo x ms d
def joinR (name b : Int) (lv : Int) (ms : List S45) (ps : List S48) : Int × Int × List S45 × List S48 :=
  if (!rightC lv ms ps || decide (name < 1) || decide (100 < name) || (!(b == 1) && !(b == 2)) || decide (0 ≤ placeAt ms name)) = true then (1, lv, ms, ps) else if binR lv b = false then (22, lv, ms, ps) else if 8 ≤ ms.length then (50, lv, ms, ps) else (0, lv, insGo ⟨name, b⟩ ms false, ps)
set_option maxHeartbeats 4000000 in
set_option maxRecDepth 100000 in
theorem joinR_calls (name b : Int) (lv : Int) (A1 : Option Addr) (c1 : Nat) (ms : List S45) (A2 : Option Addr) (c2 : Nat) (ps : List S48) (w : World)
    (hr1 : Kd.C k45 w A1 ms.length ms) (hr2 : Kd.C k48 w A2 ps.length ps) (hl1 : ms.length * 16 ≤ 140737488355328) (hl2 : ps.length * 24 ≤ 140737488355328) :
    Calls Try.prog 23 #[.agg #[.int .i64 lv, .slice A1 ms.length c1, .slice A2 ps.length c2], .int .i64 name, .int .i64 b] w fun e w' => ∃ v1 v2, e = .returned (.tuple #[.agg #[.int .i64 (joinR name b lv ms ps).2.1, v1, v2], .int .i64 (joinR name b lv ms ps).1]) ∧ Kd.R k45 45 w' w.heap.size (fun _ => True) v1 (joinR name b lv ms ps).2.2.1 ∧ Kd.R k48 48 w' w.heap.size (fun _ => True) v2 (joinR name b lv ms ps).2.2.2 ∧ Below w.heap.size w w' := by
  have HX := Lib.hid (show joinR name b lv ms ps = if (!rightC lv ms ps || decide (name < 1) || decide (100 < name) || (!(b == 1) && !(b == 2)) || decide (0 ≤ placeAt ms name)) = true then (1, lv, ms, ps) else if binR lv b = false then (22, lv, ms, ps) else if 8 ≤ ms.length then (50, lv, ms, ps) else (0, lv, insGo ⟨name, b⟩ ms false, ps) from rfl)
  have hmx : ms.length ≤ 9223372036854775807 := hr1.2.1
  generalize joinR name b lv ms ps = r at *
  have HR1 := Lib.hid hr1; clear hr1
  have HR2 := Lib.hid hr2; clear hr2
  have HL1 := Lib.hid hl1; clear hl1
  have HL2 := Lib.hid hl2; clear hl2
  generalize hW0 : (w.alloc (.cells #[.int .i64 lv, .slice A1 ms.length c1, .slice A2 ps.length c2] 26)).alloc (.cells #[.int .i64 0, .slice none 0 0, .slice none 0 0] 26) = W0
  have HB0 := Lib.hid (show Below w.heap.size w W0 by rw [← hW0]; exact below_alloc (below_alloc (Below.refl _ _) _) _)
  have HK0 := Lib.hid (show W0.heap[w.heap.size]? = some (.cells #[.int .i64 lv, .slice A1 ms.length c1, .slice A2 ps.length c2] 26 (0, 0)) by rw [← hW0]; exact alloc_on (new_at (by simp) _) _)
  have HZ0 := Lib.hid (show W0.heap[w.heap.size + 1]? = some (.cells #[.int .i64 0, .slice none 0 0, .slice none 0 0] 26 (0, 0)) by rw [← hW0]; exact new_at (by simp) _)
  have HOW := Lib.hid (own_calls lv A1 c1 ms A2 c2 ps W0 (Kd.C_below HR1.out HB0.out) (Kd.C_below HR2.out HB0.out) HL1.out HL2.out)
  have HW0 := Lib.hid hW0; clear hW0
  obtain ⟨k0, k1, k2, _, _, _, kl⟩ := three_cells HK0.out
  go_enter Try.func23, Try.ntmps23
  go_upto_region 1 with (fail)
  rw [HW0.out]
  go_wp2_with fail
  refine HOW.out.mono ?_
  rintro e Wo ⟨u1, u2, rfl, ho1, ho2, hb⟩
  obtain ⟨A3, c3, rfl⟩ := Kd.R_slice ho1
  obtain ⟨A4, c4, rfl⟩ := Kd.R_slice ho2
  generalize hWA : Wo.alloc (.cells #[.int .i64 lv, .slice A3 ms.length c3, .slice A4 ps.length c4] 26) = WA
  have hbA : Below Wo.heap.size Wo WA := by rw [← hWA]; exact below_alloc (Below.refl _ _) _
  have HB1 := Lib.hid (below_then (below_then HB0.out HB0.out.size hb) (Nat.le_trans HB0.out.size hb.size) hbA)
  have HK1 := Lib.hid (kept_on hbA (kept_on hb HK0.out))
  have HZ1 := Lib.hid (kept_on hbA (kept_on hb HZ0.out))
  have HO1 := Lib.hid (Kd.R_lower (Kd.R_below ho1 hbA) HB0.out.size)
  have HP1 := Lib.hid (Kd.R_lower (Kd.R_below ho2 hbA) HB0.out.size)
  have HA1 := Lib.hid (show WA.heap[Wo.heap.size]? = some (.cells #[.int .i64 lv, .slice A3 ms.length c3, .slice A4 ps.length c4] 26 (0, 0)) by rw [← hWA]; exact heap_alloc_new _ _)
  have HWA := Lib.hid hWA; clear hWA
  clear ho1 ho2 k0 k1 k2 kl
  have hga2 : W0.heap.size = w.heap.size + 2 := by rw [← HW0.out]; simp
  have hga3 := hb.size
  have HGA := Lib.hid (show w.heap.size + 2 ≤ Wo.heap.size by omega)
  clear hga2 hga3
  clear hb hbA
  skip
  have HRT := Lib.hid (right18_calls lv A1 c1 ms A2 c2 ps WA (Kd.C_below HR1.out HB1.out) (Kd.C_below HR2.out HB1.out))
  obtain ⟨k0, k1, k2, _, _, _, kl⟩ := three_cells HK1.out; obtain ⟨z0, z1, z2, z3, z4, z5, z6⟩ := three_cells HZ1.out; obtain ⟨a0, a1, a2, a3, a4, a5, a6⟩ := three_cells HA1.out
  go_upto_region 2 with (fail)
  rw [HWA.out]
  go_wp2_with fail
  refine HRT.out.mono ?_
  rintro e W2 ⟨rfl, hb⟩
  have HB2 := Lib.hid (below_then HB1.out HB1.out.size hb)
  have HK2 := Lib.hid (kept_on hb HK1.out)
  have HZ2 := Lib.hid (kept_on hb HZ1.out)
  have HA2 := Lib.hid (kept_on hb HA1.out)
  have HO2 := Lib.hid (Kd.R_below HO1.out hb)
  have HP2 := Lib.hid (Kd.R_below HP1.out hb)
  clear k0 k1 k2 kl z0 z1 z2 z3 z4 z5 z6 a0 a1 a2 a3 a4 a5 a6
  clear hb
  obtain ⟨k0, k1, k2, _, _, _, kl⟩ := three_cells HK2.out; obtain ⟨z0, z1, z2, z3, z4, z5, z6⟩ := three_cells HZ2.out; obtain ⟨a0, a1, a2, a3, a4, a5, a6⟩ := three_cells HA2.out
  have HMB := Lib.hid (member_calls lv A1 c1 ms (.slice A2 ps.length c2) name W2 (Kd.C_below HR1.out HB2.out))
  generalize placeAt ms name = mi at *
  generalize hrt : rightC lv ms ps = rt at *
  clear hrt
  go_upto_region 3 with (fail)
  go_cut [16, 17, 18, 19, 20, 21, 22, 23, 24, 25, 26, 27, 28, 29, 30, 31, 32, 33, 34, 35, 36, 37, 38, 39, 40] (fun v16 v17 v18 v19 v20 v21 v22 v23 v24 v25 v26 v27 v28 v29 v30 v31 v32 v33 v34 v35 v36 v37 v38 v39 v40 W => v16 = .bool (!rt || decide (name < 1) || decide (100 < name) || (!(b == 1) && !(b == 2)) || decide (0 ≤ mi)) ∧ Below W2.heap.size W2 W)
  case first =>
    cases rt
    · go_wp2
      go_meet
      case rel => exact ⟨by simp [] <;> omega, Below.refl _ _⟩
    by_cases d1 : name < 1
    · go_wp2
      go_meet
      case rel => exact ⟨by simp [d1] <;> omega, Below.refl _ _⟩
    by_cases d2 : 100 < name
    · go_wp2
      go_meet
      case rel => exact ⟨by simp [d1, d2] <;> omega, Below.refl _ _⟩
    by_cases d3 : b = 1
    · have d3a : (b != 1) = false := by simpa using d3
      have D3 := Lib.hid d3; clear d3
      by_cases d5 : 0 ≤ mi
      · go_wp2_with (go_at_call 40; refine HMB.out.mono ?_; rintro e W3 ⟨rfl, hb⟩)
        go_meet
        case rel => exact ⟨by simp [d1, d2, D3.out, d5] <;> omega, hb⟩
      · go_wp2_with (go_at_call 40; refine HMB.out.mono ?_; rintro e W3 ⟨rfl, hb⟩)
        go_meet
        case rel => exact ⟨by simp [d1, d2, D3.out, d5] <;> omega, hb⟩
    have d3a : (b != 1) = true := by simpa using d3
    by_cases d4 : b = 2
    · have d4a : (b != 2) = false := by simpa using d4
      have D4 := Lib.hid d4; clear d4
      by_cases d5 : 0 ≤ mi
      · go_wp2_with (go_at_call 40; refine HMB.out.mono ?_; rintro e W3 ⟨rfl, hb⟩)
        go_meet
        case rel => exact ⟨by simp [d1, d2, d3, D4.out, d5] <;> omega, hb⟩
      · go_wp2_with (go_at_call 40; refine HMB.out.mono ?_; rintro e W3 ⟨rfl, hb⟩)
        go_meet
        case rel => exact ⟨by simp [d1, d2, d3, D4.out, d5] <;> omega, hb⟩
    · have d4a : (b != 2) = true := by simpa using d4
      go_wp2
      go_meet
      case rel => exact ⟨by simp [d1, d2, d3, d4] <;> omega, Below.refl _ _⟩
  case rest =>
    obtain ⟨rfl, hb⟩ := hcut
    have hb' := hb
    have HB3 := Lib.hid (below_then HB2.out HB2.out.size hb)
    have HK3 := Lib.hid (kept_on hb HK2.out)
    have HZ3 := Lib.hid (kept_on hb HZ2.out)
    have HA3 := Lib.hid (kept_on hb HA2.out)
    have HO3 := Lib.hid (Kd.R_below HO2.out hb)
    have HP3 := Lib.hid (Kd.R_below HP2.out hb)
    clear k0 k1 k2 kl z0 z1 z2 z3 z4 z5 z6 a0 a1 a2 a3 a4 a5 a6
    clear hb
    obtain ⟨k0, k1, k2, _, _, _, kl⟩ := three_cells HK3.out; obtain ⟨z0, z1, z2, z3, z4, z5, z6⟩ := three_cells HZ3.out; obtain ⟨a0, a1, a2, a3, a4, a5, a6⟩ := three_cells HA3.out
    clear hb'
    generalize (!rt || decide (name < 1) || decide (100 < name) || (!(b == 1) && !(b == 2)) || decide (0 ≤ mi)) = bad at *
    cases bad
    rotate_left
    · have HR := Lib.hid (HX.out.trans (if_pos rfl))
      go_wp2
      exact ret_own (k := 1) Try.results23 rfl rfl rfl HZ3.out ⟨_, _, by rw [HR.out], by rw [HR.out]; exact own_R HO3.out HZ3.out (Nat.le_refl _) (by decide), by rw [HR.out]; exact own_R HP3.out HZ3.out (Nat.le_refl _) (by decide), below_set (below_set (below_set HB3.out (by omega)) (by omega)) (by omega)⟩
    have HX2 := Lib.hid (HX.out.trans (if_neg (by decide))); clear HX
    cases d3 : binR lv b
    · have HR := Lib.hid (HX2.out.trans (if_pos d3))
      go_wp2_with (go_at_call 39; refine (binR_calls _ _ _).mono ?_; rintro e W' ⟨rfl, rfl⟩)
      exact ret_own (k := 22) Try.results23 rfl rfl rfl HZ3.out ⟨_, _, by rw [HR.out], by rw [HR.out]; exact own_R HO3.out HZ3.out (Nat.le_refl _) (by decide), by rw [HR.out]; exact own_R HP3.out HZ3.out (Nat.le_refl _) (by decide), below_set (below_set (below_set HB3.out (by omega)) (by omega)) (by omega)⟩
    have HX3 := Lib.hid (HX2.out.trans (if_neg (by rw [d3]; decide)))
    by_cases d4 : 8 ≤ ms.length
    · have HR := Lib.hid (HX3.out.trans (if_pos d4))
      go_wp2_with (go_at_call 39; refine (binR_calls _ _ _).mono ?_; rintro e W' ⟨rfl, rfl⟩)
      exact ret_own (k := 50) Try.results23 rfl rfl rfl HZ3.out ⟨_, _, by rw [HR.out], by rw [HR.out]; exact own_R HO3.out HZ3.out (Nat.le_refl _) (by decide), by rw [HR.out]; exact own_R HP3.out HZ3.out (Nat.le_refl _) (by decide), below_set (below_set (below_set HB3.out (by omega)) (by omega)) (by omega)⟩
    have HX4 := Lib.hid (HX3.out.trans (if_neg d4))
    clear HX2 HX3
    generalize hW4 : wc.setCell ⟨Wo.heap.size, 1, none⟩ (.slice none 0 0) = W4
    have hga := HGA.out
    have hRS : RS w Wo.heap.size lv A1 ms.length c1 A2 ps.length c2 ps [] W4 := by
      rw [← hW4]
      exact ⟨none, 0, _, by simpa using blk_set HA3.out 1 (.slice none 0 0), blk_other HZ3.out _ _ (by show w.heap.size + 1 ≠ Wo.heap.size; omega), blk_other HK3.out _ _ (by show w.heap.size ≠ Wo.heap.size; omega), Kd.R_nil _ _ _ _ _, Kd.R_set HP3.out HA3.out (by decide) _ _, below_set HB3.out (by omega)⟩
    have HRS := Lib.hid hRS; clear hRS
    have HW4 := Lib.hid hW4; clear hW4
    go_upto_region 10 with (go_at_call 39; refine (binR_calls _ _ _).mono ?_; rintro e W' ⟨rfl, rfl⟩)
    rw [HW4.out]
    clear k0 k1 k2 kl z0 z1 z2 z3 z4 z5 z6 a0 a1 a2 a3 a4 a5 a6
    go_wp2
    go_loopw [10, 11] (fun v10 v11 W => ∃ (k : Nat) (d : Bool) (acc : List S45), k ≤ ms.length ∧ acc.length ≤ k + d.toNat ∧ v10 = .bool d ∧ v11 = .int .i64 k ∧ Aside0 (insGo ⟨name, b⟩ ms false = acc ++ insGo ⟨name, b⟩ (ms.drop k) d) ∧ Aside0 (RS w Wo.heap.size lv A1 ms.length c1 A2 ps.length c2 ps acc W)) (fun _ v11 _ => ms.length - (intOf v11).toNat)
    case atStart => exact ⟨0, false, [], Nat.zero_le _, Nat.zero_le _, rfl, rfl, ⟨rfl⟩, ⟨HRS.out⟩⟩
    case round =>
      obtain ⟨k, d, acc, hk, hacc, rfl, rfl, HE, HS⟩ := hrel
      clear hga
      obtain ⟨A5, c5, v4, ha, hz, hk, ho, hp, hb⟩ := HS.out
      have HAr := Lib.hid ha
      have HZr := Lib.hid hz
      have HKr := Lib.hid hk
      have HOr := Lib.hid ho
      have HPr := Lib.hid hp
      have HBr := Lib.hid hb
      clear ha hz hk ho hp hb
      obtain ⟨k0, k1, k2, _, _, _, kl⟩ := three_cells HKr.out
      obtain ⟨a0, a1, a2, a3, a4, a5, a6⟩ := three_cells HAr.out
      by_cases hlt : k < ms.length
      · obtain ⟨ad, hA1, h0, h1⟩ := at_T45 (Kd.C_below HR1.out HBr.out) k (by omega) (by omega)
        rw [Int.toNat_natCast] at h0 h1
        have hbd : d.toNat ≤ 1 := by cases d <;> decide
        have hst : ms.drop k = rd_T45 ms k :: ms.drop (k + 1) := by
          rw [List.drop_eq_getElem_cons hlt]
          simp only [rd_T45, Int.toNat_natCast, List.getD_eq_getElem?_getD, List.getElem?_eq_getElem hlt, Option.getD_some]
        have HST := Lib.hid hst; clear hst
        generalize hy : rd_T45 ms k = y at *
        have HY := Lib.hid hy; clear hy
        have b1 : (0 : Int) ≤ k := by omega
        have b2 : (k : Int) < ms.length := by omega
        have hA := Lib.hid hA1; clear hA1
        rw [hA.out] at k1
        go_upto_region 14 with (fail)
        skip
        have hT : ((!d && decide (name < y.f0)) = true ∧ d = false ∧ name < y.f0) ∨ ((!d && decide (name < y.f0)) = false ∧ (d = true ∨ ¬ name < y.f0)) := by
          by_cases h : name < y.f0 <;> cases d <;> simp [h]
        have HTT := Lib.hid hT; clear hT
        have HE2 := Lib.hid (show insGo ⟨name, b⟩ ms false = acc ++ (if (!d && decide (name < y.f0)) = true then ⟨name, b⟩ :: y :: insGo ⟨name, b⟩ (ms.drop (k + 1)) true else y :: insGo ⟨name, b⟩ (ms.drop (k + 1)) d) by rw [HE.out, HST.out]; rfl)
        rcases HTT.out with ⟨hq, hd, hl⟩ | ⟨hq, hl⟩
        · have HQ := Lib.hid hq; clear hq
          subst hd
          go_upto_region 15 with (fail)
          go_cut [75, 76, 77, 78, 79, 80, 81, 82] (fun v75 v76 v77 v78 v79 v80 v81 v82 W => RS w Wo.heap.size lv A1 ms.length c1 A2 ps.length c2 ps (acc ++ [⟨name, b⟩]) W)
          case first =>
            go_wp2_with (at_builtin; refine Kd.R_append k45 (w0 := w) w.heap.size rfl (.tmp 76) (.tmp 80) 23 45 (.agg #[(.int .i64 0), (.int .i64 0)]) 16 rfl Try.underlying23 info45 rfl (by decide) (by omega) (.slice A5 acc.length c5) acc ⟨name, b⟩ [.int .i64 name, .int .i64 b] (fun _ => True) (fun _ => False) rfl rfl (k45_mkM _ _ _ ⟨name, b⟩) (fun _ h => h.elim) (fun _ _ => trivial) HOr.out HBr.out HBr.out.size (by omega) ?_; intro v1 w1 ho1 hb1 hg1 hat1; obtain ⟨A6, c6, rfl⟩ := Kd.R_slice ho1; have HGw := Lib.hid ((hg1.block _ (blk_lt HAr.out) (Kd.R_ne HOr.out HAr.out (by decide))).trans HAr.out); obtain ⟨y0, y1, y2, y3, y4, y5, y6⟩ := three_cells HGw.out)
            go_meet
            case rel => exact RS_push (by simp) HGA.out HAr.out HZr.out HKr.out HOr.out HPr.out hg1 ho1 hb1
          case rest =>
            have HE3 := Lib.hid (HE2.out.trans (by rw [if_pos HQ.out]; simp) : insGo ⟨name, b⟩ ms false = (acc ++ [⟨name, b⟩]) ++ (y :: insGo ⟨name, b⟩ (ms.drop (k + 1)) true))
            have hl2 : (acc ++ [(⟨name, b⟩ : S45)]).length ≤ k + 1 := by rw [List.length_append]; simp at hacc ⊢; omega
            generalize acc ++ [(⟨name, b⟩ : S45)] = acc2 at *
            clear k0 k1 k2 kl a0 a1 a2 a3 a4 a5 a6 HAr HZr HKr HOr HPr HBr h0 h1
            obtain ⟨A5, c5, v4, ha, hz, hk, ho, hp, hb⟩ := hcut
            have HAr := Lib.hid ha
            have HZr := Lib.hid hz
            have HKr := Lib.hid hk
            have HOr := Lib.hid ho
            have HPr := Lib.hid hp
            have HBr := Lib.hid hb
            clear ha hz hk ho hp hb
            obtain ⟨k0, k1, k2, _, _, _, kl⟩ := three_cells HKr.out
            obtain ⟨a0, a1, a2, a3, a4, a5, a6⟩ := three_cells HAr.out
            obtain ⟨ad', hA', h0, h1⟩ := at_T45 (Kd.C_below HR1.out HBr.out) k (by omega) (by omega)
            rw [Int.toNat_natCast, HY.out] at h0 h1
            have hA2 := hA'.symm.trans hA.out
            injection hA2 with e1
            subst e1
            have hAA := Lib.hid hA'; clear hA'
            rw [hA.out] at k1
            go_upto_region 17 with (fail)
            go_region_law (refine append_drew k45 (w0 := w) w.heap.size (by rfl) (.tmp 84) (.tmp 90) 23 45 (.agg #[(.int .i64 0), (.int .i64 0)]) 16 (by rfl) Try.underlying23 info45 (by rfl) (by decide) (by omega) (.slice A5 (acc2).length c5) (acc2) y [.int .i64 y.f0, .int .i64 y.f1] (fun _ => True) (fun _ => False) (by rfl) (by rfl) (k45_mkM _ _ _ y) (fun _ h => h.elim) (fun _ _ => trivial) HOr.out HBr.out HBr.out.size (by first | omega | (rw [List.length_append]; simp only [List.length_singleton]; omega)) ?_; intro v1 w1 ho1 hb1 hg1 hat1; obtain ⟨A6, c6, rfl⟩ := Kd.R_slice ho1; have HGw := Lib.hid ((hg1.block _ (blk_lt HAr.out) (Kd.R_ne HOr.out HAr.out (by decide))).trans HAr.out); obtain ⟨y0, y1, y2, y3, y4, y5, y6⟩ := three_cells HGw.out)
            all_goals
              have hpu := RS_push (n := (acc2).length + 1) (by simp) HGA.out HAr.out HZr.out HKr.out HOr.out HPr.out hg1 ho1 hb1
              have HPU := Lib.hid hpu; clear hpu
              go_wp2
              go_roundw
              case rel => exact ⟨k + 1, true, (acc2) ++ [y], by omega, by first | (rw [List.length_append]; simp at hacc ⊢; omega) | (rw [List.length_append]; simp; omega), rfl, by go_num, ⟨by rw [HE3.out]; simp⟩, ⟨HPU.out⟩⟩
              case measure => simp [intOf]; omega
        · have HE3 := Lib.hid (HE2.out.trans (by rw [if_neg (by rw [hq]; decide)]) : insGo ⟨name, b⟩ ms false = acc ++ (y :: insGo ⟨name, b⟩ (ms.drop (k + 1)) d))
          clear hq
          rcases hl with hl | hl
          · subst hl
            go_upto_region 17 with (fail)
            go_region_law (refine append_drew k45 (w0 := w) w.heap.size (by rfl) (.tmp 84) (.tmp 90) 23 45 (.agg #[(.int .i64 0), (.int .i64 0)]) 16 (by rfl) Try.underlying23 info45 (by rfl) (by decide) (by omega) (.slice A5 (acc).length c5) (acc) y [.int .i64 y.f0, .int .i64 y.f1] (fun _ => True) (fun _ => False) (by rfl) (by rfl) (k45_mkM _ _ _ y) (fun _ h => h.elim) (fun _ _ => trivial) HOr.out HBr.out HBr.out.size (by first | omega | (rw [List.length_append]; simp only [List.length_singleton]; omega)) ?_; intro v1 w1 ho1 hb1 hg1 hat1; obtain ⟨A6, c6, rfl⟩ := Kd.R_slice ho1; have HGw := Lib.hid ((hg1.block _ (blk_lt HAr.out) (Kd.R_ne HOr.out HAr.out (by decide))).trans HAr.out); obtain ⟨y0, y1, y2, y3, y4, y5, y6⟩ := three_cells HGw.out)
            all_goals
              have hpu := RS_push (n := (acc).length + 1) (by simp) HGA.out HAr.out HZr.out HKr.out HOr.out HPr.out hg1 ho1 hb1
              have HPU := Lib.hid hpu; clear hpu
              go_wp2
              go_roundw
              case rel => exact ⟨k + 1, true, (acc) ++ [y], by omega, by first | (rw [List.length_append]; simp at hacc ⊢; omega) | (rw [List.length_append]; simp; omega), rfl, by go_num, ⟨by rw [HE3.out]; simp⟩, ⟨HPU.out⟩⟩
              case measure => simp [intOf]; omega
          · cases d
            · go_upto_region 17 with (fail)
              go_region_law (refine append_drew k45 (w0 := w) w.heap.size (by rfl) (.tmp 84) (.tmp 90) 23 45 (.agg #[(.int .i64 0), (.int .i64 0)]) 16 (by rfl) Try.underlying23 info45 (by rfl) (by decide) (by omega) (.slice A5 (acc).length c5) (acc) y [.int .i64 y.f0, .int .i64 y.f1] (fun _ => True) (fun _ => False) (by rfl) (by rfl) (k45_mkM _ _ _ y) (fun _ h => h.elim) (fun _ _ => trivial) HOr.out HBr.out HBr.out.size (by first | omega | (rw [List.length_append]; simp only [List.length_singleton]; omega)) ?_; intro v1 w1 ho1 hb1 hg1 hat1; obtain ⟨A6, c6, rfl⟩ := Kd.R_slice ho1; have HGw := Lib.hid ((hg1.block _ (blk_lt HAr.out) (Kd.R_ne HOr.out HAr.out (by decide))).trans HAr.out); obtain ⟨y0, y1, y2, y3, y4, y5, y6⟩ := three_cells HGw.out)
              all_goals
                have hpu := RS_push (n := (acc).length + 1) (by simp) HGA.out HAr.out HZr.out HKr.out HOr.out HPr.out hg1 ho1 hb1
                have HPU := Lib.hid hpu; clear hpu
                go_wp2
                go_roundw
                case rel => exact ⟨k + 1, false, (acc) ++ [y], by omega, by first | (rw [List.length_append]; simp at hacc ⊢; omega) | (rw [List.length_append]; simp; omega), rfl, by go_num, ⟨by rw [HE3.out]; simp⟩, ⟨HPU.out⟩⟩
                case measure => simp [intOf]; omega
            · go_upto_region 17 with (fail)
              go_region_law (refine append_drew k45 (w0 := w) w.heap.size (by rfl) (.tmp 84) (.tmp 90) 23 45 (.agg #[(.int .i64 0), (.int .i64 0)]) 16 (by rfl) Try.underlying23 info45 (by rfl) (by decide) (by omega) (.slice A5 (acc).length c5) (acc) y [.int .i64 y.f0, .int .i64 y.f1] (fun _ => True) (fun _ => False) (by rfl) (by rfl) (k45_mkM _ _ _ y) (fun _ h => h.elim) (fun _ _ => trivial) HOr.out HBr.out HBr.out.size (by first | omega | (rw [List.length_append]; simp only [List.length_singleton]; omega)) ?_; intro v1 w1 ho1 hb1 hg1 hat1; obtain ⟨A6, c6, rfl⟩ := Kd.R_slice ho1; have HGw := Lib.hid ((hg1.block _ (blk_lt HAr.out) (Kd.R_ne HOr.out HAr.out (by decide))).trans HAr.out); obtain ⟨y0, y1, y2, y3, y4, y5, y6⟩ := three_cells HGw.out)
              all_goals
                have hpu := RS_push (n := (acc).length + 1) (by simp) HGA.out HAr.out HZr.out HKr.out HOr.out HPr.out hg1 ho1 hb1
                have HPU := Lib.hid hpu; clear hpu
                go_wp2
                go_roundw
                case rel => exact ⟨k + 1, true, (acc) ++ [y], by omega, by first | (rw [List.length_append]; simp at hacc ⊢; omega) | (rw [List.length_append]; simp; omega), rfl, by go_num, ⟨by rw [HE3.out]; simp⟩, ⟨HPU.out⟩⟩
                case measure => simp [intOf]; omega
      · obtain rfl : k = ms.length := by omega
        have HE2 := Lib.hid (HE.out.trans (by rw [List.drop_eq_nil_of_le (by omega)]; rfl) : insGo ⟨name, b⟩ ms false = acc ++ (if d = true then [] else [⟨name, b⟩]))
        have hbd : d.toNat ≤ 1 := by cases d <;> decide
        cases d
        · go_upto_region 19 with (fail)
          go_cut [95, 96, 97, 98, 99, 100, 101, 102] (fun v95 v96 v97 v98 v99 v100 v101 v102 W => RS w Wo.heap.size lv A1 ms.length c1 A2 ps.length c2 ps (acc ++ [⟨name, b⟩]) W)
          case first =>
            go_wp2_with (at_builtin; refine Kd.R_append k45 (w0 := w) w.heap.size rfl (.tmp 96) (.tmp 100) 23 45 (.agg #[(.int .i64 0), (.int .i64 0)]) 16 rfl Try.underlying23 info45 rfl (by decide) (by omega) (.slice A5 acc.length c5) acc ⟨name, b⟩ [.int .i64 name, .int .i64 b] (fun _ => True) (fun _ => False) rfl rfl (k45_mkM _ _ _ ⟨name, b⟩) (fun _ h => h.elim) (fun _ _ => trivial) HOr.out HBr.out HBr.out.size (by omega) ?_; intro v1 w1 ho1 hb1 hg1 hat1; obtain ⟨A6, c6, rfl⟩ := Kd.R_slice ho1; have HGw := Lib.hid ((hg1.block _ (blk_lt HAr.out) (Kd.R_ne HOr.out HAr.out (by decide))).trans HAr.out); obtain ⟨y0, y1, y2, y3, y4, y5, y6⟩ := three_cells HGw.out)
            go_meet
            case rel => exact RS_push (by simp) HGA.out HAr.out HZr.out HKr.out HOr.out HPr.out hg1 ho1 hb1
          case rest =>
            have HR := Lib.hid (show r = (0, lv, acc ++ [⟨name, b⟩], ps) by rw [HX4.out, HE2.out]; rfl)
            clear k0 k1 k2 kl a0 a1 a2 a3 a4 a5 a6 HAr HZr HKr HOr HPr HBr HE2 HE
            generalize acc ++ [(⟨name, b⟩ : S45)] = acc2 at *
            obtain ⟨A5, c5, v4, ha, hz, hk, ho, hp, hb⟩ := hcut
            have HAr := Lib.hid ha
            have HZr := Lib.hid hz
            have HKr := Lib.hid hk
            have HOr := Lib.hid ho
            have HPr := Lib.hid hp
            have HBr := Lib.hid hb
            clear ha hz hk ho hp hb
            obtain ⟨k0, k1, k2, _, _, _, kl⟩ := three_cells HKr.out
            obtain ⟨a0, a1, a2, a3, a4, a5, a6⟩ := three_cells HAr.out
            obtain ⟨z0, z1, z2, z3, z4, z5, z6⟩ := three_cells HZr.out
            obtain ⟨A7, c7, rfl⟩ := Kd.R_slice HPr.out
            go_wp2
            exact ret_own (k := 0) Try.results23 rfl rfl rfl HZr.out ⟨_, _, by rw [HR.out], by rw [HR.out]; exact own_R HOr.out HZr.out (Nat.le_refl _) (by decide), by rw [HR.out]; exact own_R HPr.out HZr.out (Nat.le_refl _) (by decide), below_set (below_set (below_set HBr.out (by omega)) (by omega)) (by omega)⟩
        · have HR := Lib.hid (show r = (0, lv, acc, ps) by rw [HX4.out, HE2.out]; simp)
          obtain ⟨z0, z1, z2, z3, z4, z5, z6⟩ := three_cells HZr.out
          obtain ⟨A7, c7, rfl⟩ := Kd.R_slice HPr.out
          go_wp2
          exact ret_own (k := 0) Try.results23 rfl rfl rfl HZr.out ⟨_, _, by rw [HR.out], by rw [HR.out]; exact own_R HOr.out HZr.out (Nat.le_refl _) (by decide), by rw [HR.out]; exact own_R HPr.out HZr.out (Nat.le_refl _) (by decide), below_set (below_set (below_set HBr.out (by omega)) (by omega)) (by omega)⟩
end Go.Proofs.Ytdbgpakmbjhmgaa.H

/- The document's New. -/
namespace Go.Proofs.Ytdbgpakmbjhmgaa.H
open Go.RowKit Go.Proofs.YtdbgpakmbjhmgaaW.PrintWords Go.Proofs.YtdbgpakmbjhmgaaW.PrintLast Go.Proofs.YtdbgpakmbjhmgaaW.PrintMore
set_option linter.unusedVariables false
set_option linter.unusedSimpArgs false

/-- The controller c that New puts together: m places. -/
def NS (w : World) (name b : Int) (m : Nat) (W : World) : Prop :=
  ∃ A5 c5, W.heap[w.heap.size + 2]? = some (.cells #[.int .i64 1, .slice (some ⟨w.heap.size + 1, 0, none⟩) 1 1, .slice A5 m c5] 26 (0, 0)) ∧ W.heap[w.heap.size]? = some (.cells #[.int .i64 0, .slice none 0 0, .slice none 0 0] 26 (0, 0)) ∧
    W.heap[w.heap.size + 1]? = some (.cells #[.int .i64 name, .int .i64 b] 45 (0, 0)) ∧ Kd.R k48 48 W w.heap.size (fun _ => True) (.slice A5 m c5) (List.replicate m ⟨name, 1, 0⟩) ∧ Below w.heap.size w W
theorem NS_push {w W w1 : World} {name b : Int} {m c5 c6 : Nat} {A5 A6 : Option Addr}
    (ha : W.heap[w.heap.size + 2]? = some (.cells #[.int .i64 1, .slice (some ⟨w.heap.size + 1, 0, none⟩) 1 1, .slice A5 m c5] 26 (0, 0))) (hz : W.heap[w.heap.size]? = some (.cells #[.int .i64 0, .slice none 0 0, .slice none 0 0] 26 (0, 0)))
    (hk : W.heap[w.heap.size + 1]? = some (.cells #[.int .i64 name, .int .i64 b] 45 (0, 0))) (ho : Kd.R k48 48 W w.heap.size (fun _ => True) (.slice A5 m c5) (List.replicate m ⟨name, 1, 0⟩))
    (hg : W.grownBy w1 (Value.slice A5 m c5).ownBlock) (ho1 : Kd.R k48 48 w1 w.heap.size (fun _ => True) (.slice A6 (m + 1) c6) (List.replicate m ⟨name, 1, 0⟩ ++ [⟨name, 1, 0⟩])) (hb1 : Below w.heap.size w w1) :
    NS w name b (m + 1) (w1.setCell ⟨w.heap.size + 2, 2, none⟩ (.slice A6 (m + 1) c6)) := by
  have a1 := (hg.block _ (blk_lt ha) (Kd.R_ne ho ha (by decide))).trans ha
  have z1 := (hg.block _ (blk_lt hz) (Kd.R_ne ho hz (by decide))).trans hz
  have k1 := (hg.block _ (blk_lt hk) (Kd.R_ne ho hk (by decide))).trans hk
  refine ⟨A6, c6, by simpa using blk_set a1 2 (.slice A6 (m + 1) c6), blk_other z1 _ _ (by show w.heap.size ≠ w.heap.size + 2; omega), blk_other k1 _ _ (by show w.heap.size + 1 ≠ w.heap.size + 2; omega), ?_, below_set hb1 (by omega)⟩
  have h := Kd.R_set ho1 a1 (by decide) 2 (.slice A6 (m + 1) c6)
  rwa [← List.replicate_succ'] at h

set_option maxHeartbeats 4000000 in
set_option maxRecDepth 100000 in
theorem newR_calls (n name b : Int) (w : World) :
    Calls Try.prog 13 #[.int .i64 n, .int .i64 name, .int .i64 b] w fun e w' =>
      ∃ v1 v2, e = .returned (.agg #[.int .i64 (newC n name b).1, v1, v2]) ∧ Kd.R k45 45 w' w.heap.size (fun _ => True) v1 (newC n name b).2.1 ∧ Kd.R k48 48 w' w.heap.size (fun _ => True) v2 (newC n name b).2.2 ∧ Below w.heap.size w w' := by
  have HN := Lib.hid (show newC n name b = if rightC 1 [⟨name, b⟩] (List.replicate (sizeC n) ⟨name, 1, 0⟩) then (1, [⟨name, b⟩], List.replicate (sizeC n) ⟨name, 1, 0⟩) else (0, [], []) from rfl)
  generalize newC n name b = r at *
  generalize hW0 : ((w.alloc (.cells #[.int .i64 0, .slice none 0 0, .slice none 0 0] 26)).alloc (.cells #[.int .i64 name, .int .i64 b] 45)).alloc (.cells #[.int .i64 1, .slice (some ⟨w.heap.size + 1, 0, none⟩) 1 1, .slice none 0 0] 26) = W0
  have hns : NS w name b 0 W0 := by
    rw [← hW0]
    exact ⟨none, 0, new_at (by simp) _, alloc_on (alloc_on (new_at (by simp) _) _) _, alloc_on (new_at (by simp) _) _, Kd.R_nil _ _ _ _ _, below_alloc (below_alloc (below_alloc (Below.refl _ _) _) _) _⟩
  have HNS := Lib.hid hns; clear hns
  have HW0 := Lib.hid hW0; clear hW0
  go_enter Try.func13, Try.ntmps13
  go_upto_region 2 with (fail)
  try (rw [show w.heap.size + 1 + 1 = w.heap.size + 2 from rfl])
  rw [HW0.out]
  go_wp2
  go_loopw [8] (fun v W => ∃ m : Nat, m ≤ 9 ∧ (m : Int) ≤ max n 0 ∧ v = .int .i64 m ∧ Aside0 (NS w name b m W)) (fun v _ => 9 - (intOf v).toNat)
  case atStart => exact ⟨0, by omega, by omega, rfl, ⟨HNS.out⟩⟩
  case round =>
    obtain ⟨m, hm9, hmn, rfl, HS⟩ := hrel
    obtain ⟨A5, c5, ha, hz, hk, ho, hb⟩ := HS.out
    have HA := Lib.hid ha
    have HZ := Lib.hid hz
    have HK := Lib.hid hk
    have HO := Lib.hid ho
    have HB := Lib.hid hb
    clear ha hz hk ho hb
    obtain ⟨a0, a1, a2, a3, a4, a5, a6⟩ := three_cells HA.out
    by_cases d1 : (m : Int) < n
    · by_cases d2 : m < 9
      · go_wp2_with (at_builtin; refine Kd.R_append k48 (w0 := w) w.heap.size rfl (.tmp 25) (.tmp 28) 24 48 (.agg #[(.int .i64 0), (.int .i64 0), (.int .i64 0)]) 24 rfl Try.underlying24 info48 rfl (by decide) (by omega) (.slice A5 m c5) (List.replicate m ⟨name, 1, 0⟩) ⟨name, 1, 0⟩ [.int .i64 name, .int .i64 1, .int .i64 0] (fun _ => True) (fun _ => False) rfl rfl (k48_mkM _ _ _ ⟨name, 1, 0⟩) (fun _ h => h.elim) (fun _ _ => trivial) HO.out HB.out HB.out.size (by rw [List.length_replicate]; omega) ?_; intro v1 w1 ho1 hb1 hg1 hat1; obtain ⟨A6, c6, rfl⟩ := Kd.R_slice ho1; rw [List.length_append, List.length_replicate, List.length_singleton] at ho1 ⊢; have HGw := Lib.hid ((hg1.block _ (blk_lt HA.out) (Kd.R_ne HO.out HA.out (by decide))).trans HA.out); obtain ⟨y0, y1, y2, y3, y4, y5, y6⟩ := three_cells HGw.out)
        have HPU := Lib.hid (NS_push HA.out HZ.out HK.out HO.out hg1 ho1 hb1)
        go_roundw
        case rel => exact ⟨m + 1, by omega, by omega, by go_num, ⟨HPU.out⟩⟩
        case measure => simp [intOf]; omega
      · obtain rfl : m = 9 := by omega
        have hk : sizeC n = 9 := by unfold sizeC; omega
        have HN2 := Lib.hid (show r = if rightC 1 [⟨name, b⟩] (List.replicate 9 ⟨name, 1, 0⟩) then (1, [⟨name, b⟩], List.replicate 9 ⟨name, 1, 0⟩) else (0, [], []) by rw [HN.out, hk])
        clear hk HN
        have HM1 := Lib.hid (one_R (b := w.heap.size) ⟨name, b⟩ HK.out (by omega))
        have HO2 := Lib.hid (show Kd.R k48 48 wr w.heap.size (fun _ => True) (.slice A5 (List.replicate 9 (⟨name, 1, 0⟩ : S48)).length c5) (List.replicate 9 ⟨name, 1, 0⟩) by rw [List.length_replicate]; exact HO.out)
        have HLN := Lib.hid (show (List.replicate 9 (⟨name, 1, 0⟩ : S48)).length = 9 from List.length_replicate ..)
        generalize List.replicate 9 (⟨name, 1, 0⟩ : S48) = ps at *
        have HRT := Lib.hid (right18_calls 1 (some ⟨w.heap.size + 1, 0, none⟩) 1 [⟨name, b⟩] A5 c5 ps wr (Kd.R_reads' HM1.out).2.2 (Kd.R_reads' HO2.out).2.2)
        rw [HLN.out] at HRT
        go_wp2_with fail
        refine HRT.out.mono ?_
        rintro e W1 ⟨rfl, hb1⟩
        have HA1 := Lib.hid (kept_on hb1 HA.out)
        have HZ1 := Lib.hid (kept_on hb1 HZ.out)
        have HB1 := Lib.hid (below_then HB.out HB.out.size hb1)
        have HM2 := Lib.hid (Kd.R_below HM1.out hb1)
        have HO3 := Lib.hid (show Kd.R k48 48 W1 w.heap.size (fun _ => True) (.slice A5 9 c5) ps by have h := Kd.R_below HO2.out hb1; rwa [HLN.out] at h)
        clear a0 a1 a2 a3 a4 a5 a6 hb1
        obtain ⟨a0, a1, a2, a3, a4, a5, a6⟩ := three_cells HA1.out
        obtain ⟨z0, z1, z2, z3, z4, z5, z6⟩ := three_cells HZ1.out
        cases hv : rightC 1 [⟨name, b⟩] ps
        · have HR := Lib.hid (HN2.out.trans (by rw [hv]; rfl) : r = (0, [], [])); clear hv
          go_wp2
          exact ret_C1 (g := w.heap.size) Try.results13 rfl rfl (own_set HZ1.out 0 (.slice none 0 0) (.slice none 0 0)) ⟨_, _, by rw [HR.out], by rw [HR.out]; exact Kd.R_nil _ _ _ _ _, by rw [HR.out]; exact Kd.R_nil _ _ _ _ _, below_set (below_set (below_set HB1.out (Nat.le_refl _)) (Nat.le_refl _)) (Nat.le_refl _)⟩
        · have HR := Lib.hid (HN2.out.trans (by rw [hv]; rfl) : r = (1, [⟨name, b⟩], ps)); clear hv
          go_wp2
          exact ret_C1 (g := w.heap.size) Try.results13 rfl rfl (own_set HZ1.out 1 (.slice (some ⟨w.heap.size + 1, 0, none⟩) 1 1) (.slice A5 9 c5)) ⟨_, _, by rw [HR.out], by rw [HR.out]; exact own_R HM2.out HZ1.out (Nat.le_refl _) (by decide), by rw [HR.out]; exact own_R HO3.out HZ1.out (Nat.le_refl _) (by decide), below_set (below_set (below_set HB1.out (Nat.le_refl _)) (Nat.le_refl _)) (Nat.le_refl _)⟩
    · have hk : sizeC n = m := by unfold sizeC; omega
      have HN2 := Lib.hid (show r = if rightC 1 [⟨name, b⟩] (List.replicate m ⟨name, 1, 0⟩) then (1, [⟨name, b⟩], List.replicate m ⟨name, 1, 0⟩) else (0, [], []) by rw [HN.out, hk])
      clear hk HN
      have HM1 := Lib.hid (one_R (b := w.heap.size) ⟨name, b⟩ HK.out (by omega))
      have HO2 := Lib.hid (show Kd.R k48 48 wr w.heap.size (fun _ => True) (.slice A5 (List.replicate m (⟨name, 1, 0⟩ : S48)).length c5) (List.replicate m ⟨name, 1, 0⟩) by rw [List.length_replicate]; exact HO.out)
      have HLN := Lib.hid (show (List.replicate m (⟨name, 1, 0⟩ : S48)).length = m from List.length_replicate ..)
      generalize List.replicate m (⟨name, 1, 0⟩ : S48) = ps at *
      have HRT := Lib.hid (right18_calls 1 (some ⟨w.heap.size + 1, 0, none⟩) 1 [⟨name, b⟩] A5 c5 ps wr (Kd.R_reads' HM1.out).2.2 (Kd.R_reads' HO2.out).2.2)
      rw [HLN.out] at HRT
      go_wp2_with fail
      refine HRT.out.mono ?_
      rintro e W1 ⟨rfl, hb1⟩
      have HA1 := Lib.hid (kept_on hb1 HA.out)
      have HZ1 := Lib.hid (kept_on hb1 HZ.out)
      have HB1 := Lib.hid (below_then HB.out HB.out.size hb1)
      have HM2 := Lib.hid (Kd.R_below HM1.out hb1)
      have HO3 := Lib.hid (show Kd.R k48 48 W1 w.heap.size (fun _ => True) (.slice A5 m c5) ps by have h := Kd.R_below HO2.out hb1; rwa [HLN.out] at h)
      clear a0 a1 a2 a3 a4 a5 a6 hb1
      obtain ⟨a0, a1, a2, a3, a4, a5, a6⟩ := three_cells HA1.out
      obtain ⟨z0, z1, z2, z3, z4, z5, z6⟩ := three_cells HZ1.out
      cases hv : rightC 1 [⟨name, b⟩] ps
      · have HR := Lib.hid (HN2.out.trans (by rw [hv]; rfl) : r = (0, [], [])); clear hv
        go_wp2
        exact ret_C1 (g := w.heap.size) Try.results13 rfl rfl (own_set HZ1.out 0 (.slice none 0 0) (.slice none 0 0)) ⟨_, _, by rw [HR.out], by rw [HR.out]; exact Kd.R_nil _ _ _ _ _, by rw [HR.out]; exact Kd.R_nil _ _ _ _ _, below_set (below_set (below_set HB1.out (Nat.le_refl _)) (Nat.le_refl _)) (Nat.le_refl _)⟩
      · have HR := Lib.hid (HN2.out.trans (by rw [hv]; rfl) : r = (1, [⟨name, b⟩], ps)); clear hv
        go_wp2
        exact ret_C1 (g := w.heap.size) Try.results13 rfl rfl (own_set HZ1.out 1 (.slice (some ⟨w.heap.size + 1, 0, none⟩) 1 1) (.slice A5 m c5)) ⟨_, _, by rw [HR.out], by rw [HR.out]; exact own_R HM2.out HZ1.out (Nat.le_refl _) (by decide), by rw [HR.out]; exact own_R HO3.out HZ1.out (Nat.le_refl _) (by decide), below_set (below_set (below_set HB1.out (Nat.le_refl _)) (Nat.le_refl _)) (Nat.le_refl _)⟩
end Go.Proofs.Ytdbgpakmbjhmgaa.H

/- pick; load. -/
namespace Go.Proofs.Ytdbgpakmbjhmgaa.H
open Go.RowKit Go.Proofs.YtdbgpakmbjhmgaaW.PrintWords Go.Proofs.YtdbgpakmbjhmgaaW.PrintLast Go.Proofs.YtdbgpakmbjhmgaaW.PrintMore
set_option linter.unusedVariables false
set_option linter.unusedSimpArgs false

def InI (c : Int) : Prop := -9223372036854775808 ≤ c ∧ c ≤ 9223372036854775807
def pickI (c n : Int) : Int := (if c < 0 then -(c + 1) else c).tmod n
theorem pickI_bound (c n : Int) (hn : 0 < n) : 0 ≤ pickI c n ∧ pickI c n < n := by
  unfold pickI
  have h : 0 ≤ (if c < 0 then -(c + 1) else c) := by split <;> omega
  exact ⟨Int.tmod_nonneg _ h, Int.tmod_lt_of_pos _ hn⟩

set_option maxHeartbeats 1000000 in
theorem pick_calls (c n : Int) (hc : InI c) (hn : 0 < n) (hn2 : n ≤ 9223372036854775807) (w : World) : Calls Try.prog 14 #[.int .i64 c, .int .i64 n] w fun e w' => e = .returned (.int .i64 (pickI c n)) ∧ w = w' := by
  have HB := Lib.hid (pickI_bound c n hn)
  obtain ⟨hc1, hc2⟩ := hc
  have hnz : (n == 0) = false := by simp; omega
  have hnz2 : ¬ n = 0 := by omega
  by_cases h : c < 0
  · have HP := Lib.hid (show pickI c n = (-(c + 1)).tmod n by simp [pickI, h])
    have h1 : IntKind.i64.wrap (c + 1) = c + 1 := IntWalk.i64_in _ ⟨by omega, by omega⟩
    have h2 : IntKind.i64.wrap (-(c + 1)) = -(c + 1) := IntWalk.i64_in _ ⟨by omega, by omega⟩
    have h3 : IntKind.i64.wrap ((-(c + 1)).tmod n) = (-(c + 1)).tmod n := by have := HB.out; rw [HP.out] at this; exact IntWalk.i64_in _ ⟨by omega, by omega⟩
    go_enter Try.func14, Try.ntmps14
    go_wp2
    go_ret
    exact ⟨ret_int (by rw [HP.out, Int.neg_tmod]), rfl⟩
  · have HP := Lib.hid (show pickI c n = c.tmod n by simp [pickI, h])
    have h3 : IntKind.i64.wrap (c.tmod n) = c.tmod n := by have := HB.out; rw [HP.out] at this; exact IntWalk.i64_in _ ⟨by omega, by omega⟩
    go_enter Try.func14, Try.ntmps14
    go_wp2
    go_ret
    exact ⟨ret_int (by rw [HP.out, Int.tmod_eq_emod_of_nonneg (by omega)]), rfl⟩

def hasLoad (name : Int) (p : S48) : Bool := p.f2 == name || (p.f2 == 0 && p.f0 == name)
def loadC (ps : List S48) (name : Int) : Int := ((ps.filter (hasLoad name)).length : Nat)
theorem loadC_le (ps : List S48) (x : Int) : 0 ≤ loadC ps x ∧ loadC ps x ≤ ps.length := by
  have := List.length_filter_le (hasLoad x) ps
  unfold loadC
  omega
theorem loadC_take (ps : List S48) (m : Nat) (h : m < ps.length) (name : Int) : loadC (ps.take (m + 1)) name = loadC (ps.take m) name + (if hasLoad name (rd_T48 ps m) = true then 1 else 0) := by
  have e : rd_T48 ps m = ps[m] := by simp [rd_T48, List.getD_eq_getElem?_getD, List.getElem?_eq_getElem h]
  rw [e]
  unfold loadC
  rw [List.take_add_one, List.getElem?_eq_getElem h, Option.toList_some, List.filter_append]
  by_cases hx : hasLoad name ps[m] = true
  · simp [hx]
  · simp [hx]

set_option maxHeartbeats 2000000 in
set_option maxRecDepth 100000 in
theorem load_calls (lv : Int) (v1 : Value) (A2 : Option Addr) (c2 : Nat) (ps : List S48) (name : Int) (w : World) (hr2 : Kd.C k48 w A2 ps.length ps) :
    Calls Try.prog 32 #[.agg #[.int .i64 lv, v1, .slice A2 ps.length c2], .int .i64 name] w fun e w' => e = .returned (.int .i64 (loadC ps name)) ∧ Below w.heap.size w w' := by
  have hm2 : ps.length ≤ 9223372036854775807 := hr2.2.1
  have HR2 := Lib.hid hr2; clear hr2
  generalize hW0 : w.alloc (.cells #[.int .i64 lv, v1, .slice A2 ps.length c2] 26) = W0
  have HB0 := Lib.hid (show Below w.heap.size w W0 by rw [← hW0]; exact below_alloc (Below.refl _ _) _)
  have HK0 := Lib.hid (show W0.heap[w.heap.size]? = some (.cells #[.int .i64 lv, v1, .slice A2 ps.length c2] 26 (0, 0)) by rw [← hW0]; exact new_at (by simp) _)
  have HW0 := Lib.hid hW0; clear hW0
  obtain ⟨k0, k1, k2, _, _, _, kl⟩ := three_cells HK0.out
  go_enter Try.func32, Try.ntmps32
  go_upto_region 1 with (fail)
  rw [HW0.out]
  go_wp2
  go_loopw [5, 6] (fun v5 v6 W => ∃ m : Nat, m ≤ ps.length ∧ v5 = .int .i64 (loadC (ps.take m) name) ∧ v6 = .int .i64 m ∧ W = W0) (fun _ v6 _ => ps.length - (intOf v6).toNat)
  case atStart => exact ⟨0, Nat.zero_le _, rfl, rfl, rfl⟩
  case round =>
    obtain ⟨m, hm, rfl, rfl, hwr⟩ := hrel
    obtain rfl : W0 = wr := hwr.symm
    by_cases hlt : m < ps.length
    · obtain ⟨ad, rfl, h0, h1, h2⟩ := at_T48 (Kd.C_below HR2.out HB0.out) m (by omega) (by omega)
      rw [Int.toNat_natCast] at h0 h1 h2
      have HT := Lib.hid (loadC_take ps m hlt name)
      have hb := loadC_le (ps.take m) name
      have hb2 : (ps.take m).length = m := by rw [List.length_take]; omega
      generalize rd_T48 ps m = p at *
      generalize loadC (ps.take m) name = n at *
      have b1 : (0 : Int) ≤ m := by omega
      have b2 : (m : Int) < ps.length := by omega
      have hw : IntKind.i64.wrap (n + 1) = n + 1 := IntWalk.i64_in _ ⟨by omega, by omega⟩
      clear hb2
      have HN := Lib.hid (show hasLoad name p = (p.f2 == name || (p.f2 == 0 && p.f0 == name)) from rfl)
      cases d1 : p.f2 == name
      · cases d2 : p.f2 == 0
        · have HI := Lib.hid (HT.out.trans (by rw [HN.out, d1, d2]; simp) : loadC (ps.take (m + 1)) name = n)
          go_wp2
          go_roundw
          case rel => exact ⟨m + 1, by omega, congrArg (Value.int .i64) HI.out.symm, by go_num, trivial⟩
          case measure => simp [intOf]; omega
        · cases d3 : p.f0 == name
          · have HI := Lib.hid (HT.out.trans (by rw [HN.out, d1, d2, d3]; simp) : loadC (ps.take (m + 1)) name = n)
            go_wp2
            go_roundw
            case rel => exact ⟨m + 1, by omega, congrArg (Value.int .i64) HI.out.symm, by go_num, trivial⟩
            case measure => simp [intOf]; omega
          · have HI := Lib.hid (HT.out.trans (by rw [HN.out, d1, d2, d3]; simp) : loadC (ps.take (m + 1)) name = n + 1)
            go_wp2
            go_roundw
            case rel => exact ⟨m + 1, by omega, congrArg (Value.int .i64) HI.out.symm, by go_num, trivial⟩
            case measure => simp [intOf]; omega
      · have HI := Lib.hid (HT.out.trans (by rw [HN.out, d1]; simp) : loadC (ps.take (m + 1)) name = n + 1)
        go_wp2
        go_roundw
        case rel => exact ⟨m + 1, by omega, congrArg (Value.int .i64) HI.out.symm, by go_num, trivial⟩
        case measure => simp [intOf]; omega
    · obtain rfl : m = ps.length := by omega
      go_wp2
      go_ret
      exact ⟨ret_int (by first | rfl | rw [List.take_length]), HB0.out⟩
end Go.Proofs.Ytdbgpakmbjhmgaa.H

/- The document's Load. -/
namespace Go.Proofs.Ytdbgpakmbjhmgaa.H
open Go.RowKit Go.Proofs.YtdbgpakmbjhmgaaW.PrintWords Go.Proofs.YtdbgpakmbjhmgaaW.PrintLast Go.Proofs.YtdbgpakmbjhmgaaW.PrintMore
set_option linter.unusedVariables false
set_option linter.unusedSimpArgs false

set_option maxHeartbeats 2000000 in
set_option maxRecDepth 100000 in
theorem loadR_calls (lv : Int) (v1 : Value) (A2 : Option Addr) (c2 : Nat) (ps : List S48) (name : Int) (w : World) (hr2 : Kd.C k48 w A2 ps.length ps) :
    Calls Try.prog 51 #[.agg #[.int .i64 lv, v1, .slice A2 ps.length c2], .int .i64 name] w fun e w' => e = .returned (.int .i64 (loadC ps name)) ∧ Below w.heap.size w w' := by
  have hm2 : ps.length ≤ 9223372036854775807 := hr2.2.1
  have HR2 := Lib.hid hr2; clear hr2
  generalize hW0 : w.alloc (.cells #[.int .i64 lv, v1, .slice A2 ps.length c2] 26) = W0
  have HB0 := Lib.hid (show Below w.heap.size w W0 by rw [← hW0]; exact below_alloc (Below.refl _ _) _)
  have HK0 := Lib.hid (show W0.heap[w.heap.size]? = some (.cells #[.int .i64 lv, v1, .slice A2 ps.length c2] 26 (0, 0)) by rw [← hW0]; exact new_at (by simp) _)
  have HW0 := Lib.hid hW0; clear hW0
  obtain ⟨k0, k1, k2, _, _, _, kl⟩ := three_cells HK0.out
  go_enter Try.func51, Try.ntmps51
  go_upto_region 1 with (fail)
  rw [HW0.out]
  go_wp2
  go_loopw [5, 6] (fun v5 v6 W => ∃ m : Nat, m ≤ ps.length ∧ v5 = .int .i64 (loadC (ps.take m) name) ∧ v6 = .int .i64 m ∧ Aside0 (W.heap[w.heap.size]? = some (.cells #[.int .i64 lv, v1, .slice A2 ps.length c2] 26 (0, 0)) ∧ Below w.heap.size w W)) (fun _ v6 _ => ps.length - (intOf v6).toNat)
  case atStart => exact ⟨0, Nat.zero_le _, rfl, rfl, ⟨HK0.out, HB0.out⟩⟩
  case round =>
    obtain ⟨m, hm, rfl, rfl, HS⟩ := hrel
    clear k0 k1 k2 kl
    obtain ⟨k0, k1, k2, _, _, _, kl⟩ := three_cells HS.out.1
    by_cases hlt : m < ps.length
    · obtain ⟨ad, rfl, h0, h1, h2⟩ := at_T48 (Kd.C_below HR2.out HS.out.2) m (by omega) (by omega)
      rw [Int.toNat_natCast] at h0 h1 h2
      have HT := Lib.hid (loadC_take ps m hlt name)
      have hb := loadC_le (ps.take m) name
      have hb2 : (ps.take m).length = m := by rw [List.length_take]; omega
      generalize rd_T48 ps m = p at *
      generalize loadC (ps.take m) name = n at *
      have b1 : (0 : Int) ≤ m := by omega
      have b2 : (m : Int) < ps.length := by omega
      have hw : IntKind.i64.wrap (n + 1) = n + 1 := IntWalk.i64_in _ ⟨by omega, by omega⟩
      clear hb2
      have HN := Lib.hid (show hasLoad name p = (p.f2 == name || (p.f2 == 0 && p.f0 == name)) from rfl)
      cases d1 : p.f2 == name
      · cases d2 : p.f2 == 0
        · have HI := Lib.hid (HT.out.trans (by rw [HN.out, d1, d2]; simp) : loadC (ps.take (m + 1)) name = n)
          go_wp2
          go_roundw
          case rel => exact ⟨m + 1, by omega, congrArg (Value.int .i64) HI.out.symm, by go_num, ⟨alloc_on HS.out.1 _, below_alloc HS.out.2 _⟩⟩
          case measure => simp [intOf]; omega
        · cases d3 : p.f0 == name
          · have HI := Lib.hid (HT.out.trans (by rw [HN.out, d1, d2, d3]; simp) : loadC (ps.take (m + 1)) name = n)
            go_wp2
            go_roundw
            case rel => exact ⟨m + 1, by omega, congrArg (Value.int .i64) HI.out.symm, by go_num, ⟨alloc_on HS.out.1 _, below_alloc HS.out.2 _⟩⟩
            case measure => simp [intOf]; omega
          · have HI := Lib.hid (HT.out.trans (by rw [HN.out, d1, d2, d3]; simp) : loadC (ps.take (m + 1)) name = n + 1)
            go_wp2
            go_roundw
            case rel => exact ⟨m + 1, by omega, congrArg (Value.int .i64) HI.out.symm, by go_num, ⟨alloc_on HS.out.1 _, below_alloc HS.out.2 _⟩⟩
            case measure => simp [intOf]; omega
      · have HI := Lib.hid (HT.out.trans (by rw [HN.out, d1]; simp) : loadC (ps.take (m + 1)) name = n + 1)
        go_wp2
        go_roundw
        case rel => exact ⟨m + 1, by omega, congrArg (Value.int .i64) HI.out.symm, by go_num, ⟨alloc_on HS.out.1 _, below_alloc HS.out.2 _⟩⟩
        case measure => simp [intOf]; omega
    · obtain rfl : m = ps.length := by omega
      go_wp2
      go_ret
      exact ⟨ret_int (by first | rfl | rw [List.take_length]), HS.out.2⟩
end Go.Proofs.Ytdbgpakmbjhmgaa.H

/- The document's Balance. -/
namespace Go.Proofs.Ytdbgpakmbjhmgaa.H
open Go.RowKit Go.Proofs.YtdbgpakmbjhmgaaW.PrintWords Go.Proofs.YtdbgpakmbjhmgaaW.PrintLast Go.Proofs.YtdbgpakmbjhmgaaW.PrintMore
set_option linter.unusedVariables false
set_option linter.unusedSimpArgs false

def balToR (ms : List S45) (ps : List S48) : Int := match ms with | [] => 0 | m :: l => (bestMin (loadC ps) m l).f0
def balFromR (ms : List S45) (ps : List S48) : Int := match ms with | [] => 0 | m :: l => (bestMax (loadC ps) m l).f0
def balanceR (lv : Int) (ms : List S45) (ps : List S48) : Int × Int × Bool :=
  if rightC lv ms ps = false then (0, 0, false) else if loadC ps (balFromR ms ps) - loadC ps (balToR ms ps) < 2 then (0, 0, false) else if idx (stillP (balFromR ms ps)) ps 0 < 0 then (0, 0, false) else (idx (stillP (balFromR ms ps)) ps 0, balToR ms ps, true)
theorem rightC_ms {lv : Int} {ms : List S45} {ps : List S48} (h : rightC lv ms ps = true) : 1 ≤ ms.length := by
  unfold rightC membersOk at h
  simp at h
  omega
/-- What the walk holds of the argument's block. -/
def BK (w : World) (lv : Int) (A1 : Option Addr) (n1 c1 : Nat) (A2 : Option Addr) (n2 c2 : Nat) (W : World) : Prop :=
  W.heap[w.heap.size]? = some (.cells #[.int .i64 lv, .slice A1 n1 c1, .slice A2 n2 c2] 26 (0, 0)) ∧ Below w.heap.size w W

theorem ret_iib {k : IntKind} {a b a' b' : Int} {c c' : Bool} (h1 : a = a') (h2 : b = b') (h3 : c = c') : Ending.returned (.tuple #[.int k a, .int k b, .bool c]) = .returned (.tuple #[.int k a', .int k b', .bool c']) := by rw [h1, h2, h3]

set_option maxHeartbeats 4000000 in
set_option maxRecDepth 100000 in
theorem balanceR_calls (lv : Int) (A1 : Option Addr) (c1 : Nat) (ms : List S45) (A2 : Option Addr) (c2 : Nat) (ps : List S48) (w : World)
    (hr1 : Kd.C k45 w A1 ms.length ms) (hr2 : Kd.C k48 w A2 ps.length ps) :
    Calls Try.prog 21 #[.agg #[.int .i64 lv, .slice A1 ms.length c1, .slice A2 ps.length c2]] w fun e w' => e = .returned (.tuple #[.int .i64 (balanceR lv ms ps).1, .int .i64 (balanceR lv ms ps).2.1, .bool (balanceR lv ms ps).2.2]) ∧ Below w.heap.size w w' := by
  have hm1 : ms.length ≤ 9223372036854775807 := hr1.2.1
  have hm2 : ps.length ≤ 9223372036854775807 := hr2.2.1
  have HR1 := Lib.hid hr1; clear hr1
  have HR2 := Lib.hid hr2; clear hr2
  have HX := Lib.hid (show balanceR lv ms ps = if rightC lv ms ps = false then (0, 0, false) else if loadC ps (balFromR ms ps) - loadC ps (balToR ms ps) < 2 then (0, 0, false) else if idx (stillP (balFromR ms ps)) ps 0 < 0 then (0, 0, false) else (idx (stillP (balFromR ms ps)) ps 0, balToR ms ps, true) from rfl)
  generalize balanceR lv ms ps = r at *
  generalize hW0 : w.alloc (.cells #[.int .i64 lv, .slice A1 ms.length c1, .slice A2 ps.length c2] 26) = W0
  have HB0 := Lib.hid (show Below w.heap.size w W0 by rw [← hW0]; exact below_alloc (Below.refl _ _) _)
  have HK0 := Lib.hid (show W0.heap[w.heap.size]? = some (.cells #[.int .i64 lv, .slice A1 ms.length c1, .slice A2 ps.length c2] 26 (0, 0)) by rw [← hW0]; exact new_at (by simp) _)
  have HCR := Lib.hid (right18_calls lv A1 c1 ms A2 c2 ps W0 (Kd.C_below HR1.out HB0.out) (Kd.C_below HR2.out HB0.out))
  have HL := Lib.hid (fun (name : Int) (W : World) (hb : Below w.heap.size w W) => loadR_calls lv (.slice A1 ms.length c1) A2 c2 ps name W (Kd.C_below HR2.out hb))
  have HLE := Lib.hid (loadC_le ps)
  have hkp : ∀ W W2 : World, (W.cell? ⟨w.heap.size, 0, none⟩ = some (.int .i64 lv) ∧ W.cell? ⟨w.heap.size, 1, none⟩ = some (.slice A1 ms.length c1) ∧ W.cell? ⟨w.heap.size, 2, none⟩ = some (.slice A2 ps.length c2) ∧ Aside0 (BK w lv A1 ms.length c1 A2 ps.length c2 W)) → Below W.heap.size W W2 → (W2.cell? ⟨w.heap.size, 0, none⟩ = some (.int .i64 lv) ∧ W2.cell? ⟨w.heap.size, 1, none⟩ = some (.slice A1 ms.length c1) ∧ W2.cell? ⟨w.heap.size, 2, none⟩ = some (.slice A2 ps.length c2) ∧ Aside0 (BK w lv A1 ms.length c1 A2 ps.length c2 W2)) :=
    fun W W2 h hb => ⟨kept_cell hb h.1, kept_cell hb h.2.1, kept_cell hb h.2.2.1, ⟨kept_on hb h.2.2.2.out.1, below_then h.2.2.2.out.2 h.2.2.2.out.2.size hb⟩⟩
  have HKP := Lib.hid hkp; clear hkp
  have hof : ∀ W : World, BK w lv A1 ms.length c1 A2 ps.length c2 W → (W.cell? ⟨w.heap.size, 0, none⟩ = some (.int .i64 lv) ∧ W.cell? ⟨w.heap.size, 1, none⟩ = some (.slice A1 ms.length c1) ∧ W.cell? ⟨w.heap.size, 2, none⟩ = some (.slice A2 ps.length c2) ∧ Aside0 (BK w lv A1 ms.length c1 A2 ps.length c2 W)) :=
    fun W h => ⟨(three_cells h.1).1, (three_cells h.1).2.1, (three_cells h.1).2.2.1, ⟨h⟩⟩
  have HOF := Lib.hid hof; clear hof
  have HW0 := Lib.hid hW0; clear hW0
  obtain ⟨k0, k1, k2, _, _, _, kl⟩ := three_cells HK0.out
  go_enter Try.func21, Try.ntmps21
  go_upto_region 1 with (fail)
  rw [HW0.out]
  go_wp2_with fail
  refine HCR.out.mono ?_
  rintro e W1 ⟨rfl, hb1⟩
  have HBK := Lib.hid (show BK w lv A1 ms.length c1 A2 ps.length c2 W1 from ⟨kept_on hb1 HK0.out, below_then HB0.out HB0.out.size hb1⟩)
  clear k0 k1 k2 kl hb1 HK0 HB0 HW0 HCR
  cases hrt : rightC lv ms ps
  · have HR := Lib.hid (HX.out.trans (if_pos hrt)); clear hrt
    go_wp2
    go_ret3
    exact ⟨ret_iib (by rw [HR.out]) (by rw [HR.out]) (by rw [HR.out]), HBK.out.2⟩
  have HX2 := Lib.hid (HX.out.trans (if_neg (by rw [hrt]; decide)))
  have hpos := rightC_ms hrt
  clear hrt HX
  obtain ⟨k0, k1, k2, _, _, _, kl⟩ := three_cells HBK.out.1
  obtain ⟨ad, hA, h0, h1⟩ := at_T45 (Kd.C_below HR1.out HBK.out.2) 0 (by omega) (by omega)
  subst hA
  have hms : ∃ m l, ms = m :: l := by
    cases ms with
    | nil => simp at hpos
    | cons m l => exact ⟨m, l, rfl⟩
  have HMS := Lib.hid hms; clear hms
  have h0p : 0 < ms.length := by omega
  have hF : balFromR ms ps = (bestMax (loadC ps) (rd_T45 ms 0) (ms.drop 1)).f0 := by obtain ⟨m, l, e⟩ := HMS.out; subst e; rfl
  have hT : balToR ms ps = (bestMin (loadC ps) (rd_T45 ms 0) (ms.drop 1)).f0 := by obtain ⟨m, l, e⟩ := HMS.out; subst e; rfl
  have HF := Lib.hid hF; clear hF
  have HT := Lib.hid hT; clear hT
  generalize rd_T45 ms 0 = x0 at *
  have e0 : ad.add ((0 : Int).toNat * 2) = ad := by simp [Addr.add]
  rw [e0] at h0
  have H0 := Lib.hid h0
  clear h1 e0 h0
  have h0 := H0.out
  have HXX := Lib.hid (show balFromR ms ps = balFromR ms ps ∧ balToR ms ps = balToR ms ps from ⟨rfl, rfl⟩)
  generalize balFromR ms ps = fr at *
  generalize balToR ms ps = tt at *
  go_wp2
  go_loopg [6, 7, 8] (ms.length) (fun gk v6 v7 v8 W => ∃ (k : Nat) (a b : S45), 1 ≤ k ∧ k ≤ ms.length ∧ ms.length ≤ k + gk ∧ v8 = .int .i64 k ∧ v6 = .int .i64 a.f0 ∧ v7 = .int .i64 b.f0 ∧ Aside0 (fr = (bestMax (loadC ps) a (ms.drop k)).f0 ∧ tt = (bestMin (loadC ps) b (ms.drop k)).f0 ∧ BK w lv (some ad) ms.length c1 A2 ps.length c2 W))
  case atStart => exact ⟨1, x0, x0, by omega, by omega, by omega, rfl, rfl, rfl, ⟨HF.out, HT.out, HBK.out⟩⟩
  case round =>
    clear k0 k1 k2 kl h0
    obtain ⟨k, a, b, hk1, hk2, hgk, rfl, rfl, rfl, HE⟩ := hrel
    have HBe := Lib.hid HE.out.2.2
    obtain ⟨k0, k1, k2, _, _, _, kl⟩ := three_cells HBe.out.1
    by_cases hlt : k < ms.length
    · obtain ⟨ad', hA, h0, h1⟩ := at_T45 (Kd.C_below HR1.out HBe.out.2) k (by omega) (by omega)
      injection hA with hA
      subst hA
      rw [Int.toNat_natCast] at h0 h1
      have hdr : ms.drop k = rd_T45 ms k :: ms.drop (k + 1) := by
        rw [List.drop_eq_getElem_cons hlt]
        simp only [rd_T45, Int.toNat_natCast, List.getD_eq_getElem?_getD, List.getElem?_eq_getElem hlt, Option.getD_some]
      have HD := Lib.hid hdr; clear hdr
      generalize rd_T45 ms k = x at *
      have bk1 : (0 : Int) ≤ k := by omega
      have bk2 : (k : Int) < ms.length := by omega
      have HEE := Lib.hid (show fr = (bestMax (loadC ps) (if loadC ps a.f0 < loadC ps x.f0 then x else a) (ms.drop (k + 1))).f0 ∧ tt = (bestMin (loadC ps) (if loadC ps x.f0 < loadC ps b.f0 then x else b) (ms.drop (k + 1))).f0 by
        have h := HE.out
        rw [HD.out, bestMax, bestMin] at h
        exact ⟨h.1, h.2.1⟩)
      clear HE
      go_upto_region 10 with (fail)
      go_cut [40] (fun v40 W => v40 = .bool (decide (loadC ps a.f0 < loadC ps x.f0)) ∧ Aside0 (BK w lv (some ad) ms.length c1 A2 ps.length c2 W))
      case first =>
        have hs0 := HOF.out _ HBe.out
        go_region_held3 (fun W => W.cell? ⟨w.heap.size, 0, none⟩ = some (.int .i64 lv) ∧ W.cell? ⟨w.heap.size, 1, none⟩ = some (.slice (some ad) ms.length c1) ∧ W.cell? ⟨w.heap.size, 2, none⟩ = some (.slice A2 ps.length c2) ∧ Aside0 (BK w lv (some ad) ms.length c1 A2 ps.length c2 W))
          (first | assumption | exact HKP.out _ _ (by assumption) (below_drew (Below.refl _ _)) | go_keep)
          (first | (go_at_call 51; refine (HL.out _ _ ?hbx).mono ?_; (case hbx => exact (by assumption : _ ∧ _ ∧ _ ∧ Aside0 (BK w lv (some ad) ms.length c1 A2 ps.length c2 _)).2.2.2.out.2); rintro e w2 ⟨rfl, hb2⟩; have hs2 := HKP.out _ _ (by assumption) hb2))
        all_goals (go_wp2_with fail; go_meet; exact ⟨rfl, ⟨(by assumption : _ ∧ _ ∧ _ ∧ Aside0 _).2.2.2.out⟩⟩)
      case rest =>
        clear h0 h1 k0 k1 k2 kl
        obtain ⟨rfl, HB2⟩ := hcut
        by_cases d1 : loadC ps a.f0 < loadC ps x.f0
        all_goals
          have HE1 := Lib.hid HEE.out.1
          first | rw [if_pos d1] at HE1 | rw [if_neg d1] at HE1
          obtain ⟨k0, k1, k2, _, _, _, kl⟩ := three_cells HB2.out.1
          go_upto_region 12 with (fail)
          go_cut [48] (fun v48 W => v48 = .bool (decide (loadC ps x.f0 < loadC ps b.f0)) ∧ Aside0 (BK w lv (some ad) ms.length c1 A2 ps.length c2 W))
          case first =>
            have hs0 := HOF.out _ HB2.out
            go_region_held3 (fun W => W.cell? ⟨w.heap.size, 0, none⟩ = some (.int .i64 lv) ∧ W.cell? ⟨w.heap.size, 1, none⟩ = some (.slice (some ad) ms.length c1) ∧ W.cell? ⟨w.heap.size, 2, none⟩ = some (.slice A2 ps.length c2) ∧ Aside0 (BK w lv (some ad) ms.length c1 A2 ps.length c2 W))
              (first | assumption | exact HKP.out _ _ (by assumption) (below_drew (Below.refl _ _)) | go_keep)
              (first | (go_at_call 51; refine (HL.out _ _ ?hbx).mono ?_; (case hbx => exact (by assumption : _ ∧ _ ∧ _ ∧ Aside0 (BK w lv (some ad) ms.length c1 A2 ps.length c2 _)).2.2.2.out.2); rintro e w2 ⟨rfl, hb2⟩; have hs2 := HKP.out _ _ (by assumption) hb2))
            all_goals (go_wp2_with fail; go_meet; exact ⟨rfl, ⟨(by assumption : _ ∧ _ ∧ _ ∧ Aside0 _).2.2.2.out⟩⟩)
          case rest =>
            clear k0 k1 k2 kl
            obtain ⟨rfl, HB3⟩ := hcut
            by_cases d2 : loadC ps x.f0 < loadC ps b.f0
            all_goals
              have HE2 := Lib.hid HEE.out.2
              first | rw [if_pos d2] at HE2 | rw [if_neg d2] at HE2
              go_wp2
              go_roundg (gk - 1)
              case measure => omega
              case rel => exact ⟨k + 1, _, _, by omega, by omega, by omega, by go_num, rfl, rfl, ⟨HE1.out, HE2.out, HB3.out⟩⟩
    · obtain rfl : k = ms.length := by omega
      have he := HE.out
      rw [List.drop_eq_nil_of_le (Nat.le_refl _), bestMax, bestMin] at he
      have HFT := Lib.hid (And.intro he.1 he.2.1)
      clear he HE
      have HX3 := Lib.hid (show r = if loadC ps a.f0 - loadC ps b.f0 < 2 then (0, 0, false) else if idx (stillP a.f0) ps 0 < 0 then (0, 0, false) else (idx (stillP a.f0) ps 0, b.f0, true) by rw [HX2.out, HFT.out.1, HFT.out.2])
      have hla := HLE.out a.f0
      have hlb := HLE.out b.f0
      have hww : IntKind.i64.wrap (loadC ps a.f0 - loadC ps b.f0) = loadC ps a.f0 - loadC ps b.f0 := IntWalk.i64_in _ ⟨by omega, by omega⟩
      have HWW := Lib.hid hww; clear hww hla hlb
      go_wp2
      go_loopg [10] (ps.length) (fun gk v10 W => ∃ k : Nat, k ≤ ps.length ∧ ps.length ≤ k + gk ∧ v10 = .int .i64 k ∧ Aside0 (idx (stillP a.f0) ps 0 = idx (stillP a.f0) (ps.drop k) k ∧ BK w lv (some ad) ms.length c1 A2 ps.length c2 W))
      case atStart => exact ⟨0, by omega, by omega, rfl, ⟨rfl, HBe.out⟩⟩
      case round =>
        clear k0 k1 k2 kl
        obtain ⟨k, hk2, hgk, rfl, HE⟩ := hrel
        have HBe2 := Lib.hid HE.out.2
        have HI := Lib.hid HE.out.1
        obtain ⟨k0, k1, k2, _, _, _, kl⟩ := three_cells HBe2.out.1
        by_cases hlt : k < ps.length
        · have bk1 : (0 : Int) ≤ k := by omega
          have bk2 : (k : Int) < ps.length := by omega
          go_upto_region 15 with (fail)
          go_cut [64] (fun v64 W => v64 = .bool (decide (2 ≤ loadC ps a.f0 - loadC ps b.f0)) ∧ Aside0 (BK w lv (some ad) ms.length c1 A2 ps.length c2 W))
          case first =>
            have hww := HWW.out
            have hs0 := HOF.out _ HBe2.out
            go_region_held3 (fun W => W.cell? ⟨w.heap.size, 0, none⟩ = some (.int .i64 lv) ∧ W.cell? ⟨w.heap.size, 1, none⟩ = some (.slice (some ad) ms.length c1) ∧ W.cell? ⟨w.heap.size, 2, none⟩ = some (.slice A2 ps.length c2) ∧ Aside0 (BK w lv (some ad) ms.length c1 A2 ps.length c2 W))
              (first | assumption | exact HKP.out _ _ (by assumption) (below_drew (Below.refl _ _)) | go_keep)
              (first | (go_at_call 51; refine (HL.out _ _ ?hbx).mono ?_; (case hbx => exact (by assumption : _ ∧ _ ∧ _ ∧ Aside0 (BK w lv (some ad) ms.length c1 A2 ps.length c2 _)).2.2.2.out.2); rintro e w2 ⟨rfl, hb2⟩; have hs2 := HKP.out _ _ (by assumption) hb2))
            all_goals (go_wp2_with fail; go_meet; exact ⟨rfl, ⟨(by assumption : _ ∧ _ ∧ _ ∧ Aside0 _).2.2.2.out⟩⟩)
          case rest =>
            clear k0 k1 k2 kl
            obtain ⟨rfl, HB3⟩ := hcut
            obtain ⟨k0, k1, k2, _, _, _, kl⟩ := three_cells HB3.out.1
            by_cases d3 : loadC ps a.f0 - loadC ps b.f0 < 2
            · have d3a : decide (2 ≤ loadC ps a.f0 - loadC ps b.f0) = false := by simp; omega
              have HR := Lib.hid (HX3.out.trans (if_pos d3))
              go_wp2
              go_ret3
              exact ⟨ret_iib (by rw [HR.out]) (by rw [HR.out]) (by rw [HR.out]), HB3.out.2⟩
            have d3a : decide (2 ≤ loadC ps a.f0 - loadC ps b.f0) = true := by simp; omega
            have HX4 := Lib.hid (HX3.out.trans (if_neg d3))
            obtain ⟨ad', hA, h0, h1, h2⟩ := at_T48 (Kd.C_below HR2.out HB3.out.2) k (by omega) (by omega)
            subst hA
            rw [Int.toNat_natCast] at h0 h1 h2
            have hp : (stillP a.f0 (rd_T48 ps k) = true ∧ idx (stillP a.f0) (ps.drop k) k = k) ∨ (stillP a.f0 (rd_T48 ps k) = false ∧ idx (stillP a.f0) (ps.drop k) k = idx (stillP a.f0) (ps.drop (k + 1)) (k + 1)) := by
              rw [List.drop_eq_getElem_cons hlt, idx]
              simp only [rd_T48, Int.toNat_natCast, List.getD_eq_getElem?_getD, List.getElem?_eq_getElem hlt, Option.getD_some]
              cases stillP a.f0 ps[k] <;> simp
            have HP := Lib.hid hp; clear hp
            generalize rd_T48 ps k = p at *
            have HST := Lib.hid (show stillP a.f0 p = (p.f0 == a.f0 && p.f2 == 0) from rfl)
            cases g1 : p.f0 == a.f0
            rotate_left
            cases g2 : p.f2 == 0
            rotate_left
            · have HR := Lib.hid (show r = ((k : Int), b.f0, true) by
                rcases HP.out with ⟨_, h⟩ | ⟨h, _⟩
                · rw [HX4.out, HI.out, h, if_neg (by omega)]
                · rw [HST.out, g1, g2] at h; cases h)
              go_wp2
              go_ret3
              exact ⟨ret_iib (by rw [HR.out]) (by rw [HR.out]) (by rw [HR.out]), HB3.out.2⟩
            all_goals
              have HI2 := Lib.hid (show idx (stillP a.f0) ps 0 = idx (stillP a.f0) (ps.drop (k + 1)) (k + 1) by
                rcases HP.out with ⟨h, _⟩ | ⟨_, h⟩
                · rw [HST.out, g1] at h; first | (cases h; done) | (rw [g2] at h; cases h; done)
                · exact HI.out.trans h)
              go_wp2
              go_roundg (gk - 1)
              case measure => omega
              case rel => exact ⟨k + 1, by omega, by omega, by go_num, ⟨HI2.out, HB3.out⟩⟩
        · obtain rfl : k = ps.length := by omega
          have hz : idx (stillP a.f0) ps 0 = -1 := HI.out.trans (by rw [List.drop_eq_nil_of_le (Nat.le_refl _)]; rfl)
          have HR := Lib.hid (show r = (0, 0, false) by rw [HX3.out, hz]; split <;> rfl)
          clear hz
          go_wp2_with fail
          go_quiet (fail)
          go_wp2
          go_ret3
          exact ⟨ret_iib (by rw [HR.out]) (by rw [HR.out]) (by rw [HR.out]), pw_below_drewN HBe2.out.2 _⟩
end Go.Proofs.Ytdbgpakmbjhmgaa.H

/- How long a controller's rows grow. -/
namespace Go.Proofs.Ytdbgpakmbjhmgaa.H
open Go.RowKit Go.Proofs.YtdbgpakmbjhmgaaW.PrintWords Go.Proofs.YtdbgpakmbjhmgaaW.PrintLast Go.Proofs.YtdbgpakmbjhmgaaW.PrintMore
set_option linter.unusedVariables false
set_option linter.unusedSimpArgs false

theorem insGo_length (x : S45) : ∀ (ms : List S45) (d : Bool), (insGo x ms d).length ≤ ms.length + 1
  | [], d => by rw [insGo]; split <;> simp
  | m :: ms, d => by
    rw [insGo]
    have h1 := insGo_length x ms true
    have h2 := insGo_length x ms d
    have h3 : (insGo x ms true).length ≤ ms.length := insGo_true x ms
    split <;> simp only [List.length_cons] <;> omega
where insGo_true (x : S45) : ∀ (ms : List S45), (insGo x ms true).length ≤ ms.length
  | [] => by simp [insGo]
  | m :: ms => by
    have h := insGo_true x ms
    rw [insGo]
    simp
    exact h
def Grows (f : Int × Int × List S45 × List S48) (ms : List S45) (ps : List S48) : Prop := f.2.2.1.length ≤ ms.length + 1 ∧ f.2.2.2.length = ps.length
theorem joinR_len (name b lv : Int) (ms : List S45) (ps : List S48) : Grows (joinR name b lv ms ps) ms ps := by
  unfold joinR Grows
  have := insGo_length ⟨name, b⟩ ms false
  repeat' split
  all_goals exact ⟨by simp only; omega, rfl⟩
theorem reportR_len (name b lv : Int) (ms : List S45) (ps : List S48) : Grows (reportR name b lv ms ps) ms ps := by
  unfold reportR Grows
  repeat' split
  all_goals exact ⟨by simp only [List.length_set]; omega, rfl⟩
theorem finR_len (lv : Int) (ms : List S45) (ps : List S48) : Grows (finR lv ms ps) ms ps := by
  unfold finR Grows
  repeat' split
  all_goals exact ⟨by simp only; omega, rfl⟩
theorem planR_len (s t lv : Int) (ms : List S45) (ps : List S48) : Grows (planR s t lv ms ps) ms ps := by
  unfold planR Grows
  repeat' split
  all_goals exact ⟨by simp only; omega, by simp only [List.length_set]⟩
theorem commitR_len (s lv : Int) (ms : List S45) (ps : List S48) : Grows (commitR s lv ms ps) ms ps := by
  unfold commitR Grows
  repeat' split
  all_goals exact ⟨by simp only; omega, by simp only [List.length_set]⟩
theorem cancelR_len (s lv : Int) (ms : List S45) (ps : List S48) : Grows (cancelR s lv ms ps) ms ps := by
  unfold cancelR Grows
  repeat' split
  all_goals exact ⟨by simp only; omega, by simp only [List.length_set]⟩
theorem newC_len (n name b : Int) : (newC n name b).2.1.length ≤ 1 ∧ (newC n name b).2.2.length ≤ 9 := by
  unfold newC
  have h : sizeC n ≤ 9 := by unfold sizeC; omega
  split
  · exact ⟨by simp, by simpa using h⟩
  · exact ⟨by simp, by simp⟩
end Go.Proofs.Ytdbgpakmbjhmgaa.H

/- Same. -/
namespace Go.Proofs.Ytdbgpakmbjhmgaa.H
open Go.RowKit Go.Proofs.YtdbgpakmbjhmgaaW.PrintWords Go.Proofs.YtdbgpakmbjhmgaaW.PrintLast Go.Proofs.YtdbgpakmbjhmgaaW.PrintMore
set_option linter.unusedVariables false
set_option linter.unusedSimpArgs false

instance : DecidableEq S45 := fun a b =>
  if h : a.f0 = b.f0 ∧ a.f1 = b.f1 then isTrue (by cases a; cases b; simp only at h; rw [h.1, h.2]) else isFalse (fun e => h (by rw [e]; exact ⟨rfl, rfl⟩))
instance : DecidableEq S48 := fun a b =>
  if h : a.f0 = b.f0 ∧ a.f1 = b.f1 ∧ a.f2 = b.f2 then isTrue (by cases a; cases b; simp only at h; rw [h.1, h.2.1, h.2.2]) else isFalse (fun e => h (by rw [e]; exact ⟨rfl, rfl, rfl⟩))
def sameC (lv : Int) (ms : List S45) (ps : List S48) (lv' : Int) (ms' : List S45) (ps' : List S48) : Bool := decide (lv = lv' ∧ ms = ms' ∧ ps = ps')

set_option maxHeartbeats 4000000 in
set_option maxRecDepth 100000 in
theorem same_calls (lv : Int) (A1 : Option Addr) (c1 : Nat) (ms : List S45) (A2 : Option Addr) (c2 : Nat) (ps : List S48) (lv' : Int) (A1' : Option Addr) (c1' : Nat) (ms' : List S45) (A2' : Option Addr) (c2' : Nat) (ps' : List S48) (w : World)
    (hr1 : Kd.C k45 w A1 ms.length ms) (hr2 : Kd.C k48 w A2 ps.length ps) (hr1' : Kd.C k45 w A1' ms'.length ms') (hr2' : Kd.C k48 w A2' ps'.length ps') :
    Calls Try.prog 11 #[.agg #[.int .i64 lv, .slice A1 ms.length c1, .slice A2 ps.length c2], .agg #[.int .i64 lv', .slice A1' ms'.length c1', .slice A2' ps'.length c2']] w fun e w' => e = .returned (.bool (sameC lv ms ps lv' ms' ps')) ∧ Below w.heap.size w w' := by
  have hm1 : ms.length ≤ 9223372036854775807 := hr1.2.1
  have hm2 : ps.length ≤ 9223372036854775807 := hr2.2.1
  have HR1 := Lib.hid hr1; clear hr1
  have HR2 := Lib.hid hr2; clear hr2
  have HR3 := Lib.hid hr1'; clear hr1'
  have HR4 := Lib.hid hr2'; clear hr2'
  have HX := Lib.hid (show sameC lv ms ps lv' ms' ps' = decide (lv = lv' ∧ ms = ms' ∧ ps = ps') from rfl)
  generalize sameC lv ms ps lv' ms' ps' = r at *
  generalize hW0 : (w.alloc (.cells #[.int .i64 lv, .slice A1 ms.length c1, .slice A2 ps.length c2] 26)).alloc (.cells #[.int .i64 lv', .slice A1' ms'.length c1', .slice A2' ps'.length c2'] 26) = W0
  have HB0 := Lib.hid (show Below w.heap.size w W0 by rw [← hW0]; exact below_alloc (below_alloc (Below.refl _ _) _) _)
  have HK0 := Lib.hid (show W0.heap[w.heap.size]? = some (.cells #[.int .i64 lv, .slice A1 ms.length c1, .slice A2 ps.length c2] 26 (0, 0)) by rw [← hW0]; exact alloc_on (new_at (by simp) _) _)
  have HK1 := Lib.hid (show W0.heap[w.heap.size + 1]? = some (.cells #[.int .i64 lv', .slice A1' ms'.length c1', .slice A2' ps'.length c2'] 26 (0, 0)) by rw [← hW0]; exact new_at (by simp) _)
  have HW0 := Lib.hid hW0; clear hW0
  obtain ⟨k0, k1, k2, _, _, _, kl⟩ := three_cells HK0.out
  obtain ⟨j0, j1, j2, _, _, _, jl⟩ := three_cells HK1.out
  go_enter Try.func11, Try.ntmps11
  go_upto_region 1 with (fail)
  rw [HW0.out]
  by_cases d1 : lv = lv'
  rotate_left
  · have d1a : (lv != lv') = true := by simpa using d1
    have HR := Lib.hid (HX.out.trans (decide_eq_false (fun h => d1 h.1)))
    go_wp2
    go_ret
    exact ⟨ret_bool HR.out.symm, HB0.out⟩
  have d1a : (lv != lv') = false := by simpa using d1
  have D1 := Lib.hid d1; clear d1
  by_cases d2 : ms.length = ms'.length
  rotate_left
  · have d2a : ((ms.length : Int) != ms'.length) = true := by simp; omega
    have HR := Lib.hid (HX.out.trans (decide_eq_false (fun h => d2 (by rw [h.2.1]))))
    go_wp2
    go_ret
    exact ⟨ret_bool HR.out.symm, HB0.out⟩
  have d2a : ((ms.length : Int) != ms'.length) = false := by simp; omega
  have D2 := Lib.hid d2; clear d2
  by_cases d3 : ps.length = ps'.length
  rotate_left
  · have d3a : ((ps.length : Int) != ps'.length) = true := by simp; omega
    have HR := Lib.hid (HX.out.trans (decide_eq_false (fun h => d3 (by rw [h.2.2]))))
    go_wp2
    go_ret
    exact ⟨ret_bool HR.out.symm, HB0.out⟩
  have d3a : ((ps.length : Int) != ps'.length) = false := by simp; omega
  have D3 := Lib.hid d3; clear d3
  go_wp2
  go_loopw [5] (fun v W => ∃ k : Nat, k ≤ ms.length ∧ v = .int .i64 k ∧ Aside0 (ms.take k = ms'.take k) ∧ Aside0 (W.heap[w.heap.size]? = some (.cells #[.int .i64 lv, .slice A1 ms.length c1, .slice A2 ps.length c2] 26 (0, 0)) ∧ W.heap[w.heap.size + 1]? = some (.cells #[.int .i64 lv', .slice A1' ms'.length c1', .slice A2' ps'.length c2'] 26 (0, 0)) ∧ Below w.heap.size w W)) (fun v _ => ms.length - (intOf v).toNat)
  case atStart => exact ⟨0, Nat.zero_le _, rfl, ⟨rfl⟩, ⟨HK0.out, HK1.out, HB0.out⟩⟩
  case round =>
    obtain ⟨k, hk, rfl, HE, HS⟩ := hrel
    clear k0 k1 k2 kl j0 j1 j2 jl
    have HB := Lib.hid HS.out.2.2
    obtain ⟨k0, k1, k2, _, _, _, kl⟩ := three_cells HS.out.1
    obtain ⟨j0, j1, j2, _, _, _, jl⟩ := three_cells HS.out.2.1
    by_cases hlt : k < ms.length
    · obtain ⟨ad, hA, h0, h1⟩ := at_T45 (Kd.C_below HR1.out HB.out) k (by omega) (by omega)
      obtain ⟨ad', hA', h0', h1'⟩ := at_T45 (Kd.C_below HR3.out HB.out) k (by omega) (by have := D2.out; omega)
      subst hA; subst hA'
      rw [Int.toNat_natCast] at h0 h1 h0' h1'
      have b1 : (0 : Int) ≤ k := by omega
      have b2 : (k : Int) < ms.length := by omega
      have b3 : (k : Int) < ms'.length := by have := D2.out; omega
      have hs1 : ∀ (l : List S45), k < l.length → l.take (k + 1) = l.take k ++ [rd_T45 l k] := by
        intro l hl
        rw [List.take_add_one, List.getElem?_eq_getElem hl]
        simp only [rd_T45, Int.toNat_natCast, List.getD_eq_getElem?_getD, List.getElem?_eq_getElem hl, Option.getD_some, Option.toList_some]
      have HT1 := Lib.hid (hs1 ms hlt)
      have HT2 := Lib.hid (hs1 ms' (by have := D2.out; omega))
      clear hs1
      generalize rd_T45 ms k = x at *
      generalize rd_T45 ms' k = y at *
      have HNE := Lib.hid (show ¬ x = y → ¬ ms = ms' by
        intro hne he
        have h := congrArg (List.take (k + 1)) he
        rw [HT1.out, HT2.out, HE.out] at h
        have h2 := List.append_cancel_left h
        injection h2 with h2
        exact hne h2)
      by_cases d0 : x.f0 = y.f0
      rotate_left
      · have q0 : (x.f0 == y.f0) = false := by simpa using d0
        have HR := Lib.hid (HX.out.trans (decide_eq_false (fun h => HNE.out (fun e => d0 (by rw [e])) h.2.1)))
        go_wp2_with fail
        go_quiet (fail)
        go_wp2
        go_ret
        exact ⟨ret_bool HR.out.symm, pw_below_drewN HB.out _⟩
      have q0 : (x.f0 == y.f0) = true := by simpa using d0
      have E0 := Lib.hid d0; clear d0
      by_cases d1 : x.f1 = y.f1
      rotate_left
      · have q1 : (x.f1 == y.f1) = false := by simpa using d1
        have HR := Lib.hid (HX.out.trans (decide_eq_false (fun h => HNE.out (fun e => d1 (by rw [e])) h.2.1)))
        go_wp2_with fail
        go_quiet (fail)
        go_wp2
        go_ret
        exact ⟨ret_bool HR.out.symm, pw_below_drewN HB.out _⟩
      have q1 : (x.f1 == y.f1) = true := by simpa using d1
      have E1 := Lib.hid d1; clear d1
      have HXY := Lib.hid (show x = y by cases x; cases y; simp only at *; have e0 := E0.out; have e1 := E1.out; all_goals (subst e0; subst e1; rfl))
      go_wp2_with fail
      go_quiet (fail)
      go_wp2
      go_roundw
      case rel => exact ⟨k + 1, by omega, by go_num, ⟨by rw [HT1.out, HT2.out, HE.out, HXY.out]⟩, ⟨HS.out.1, HS.out.2.1, pw_below_drewN HS.out.2.2 _⟩⟩
      case measure => simp [intOf]; omega
    · obtain rfl : k = ms.length := by omega
      have he : ms = ms' := by
        have h := HE.out
        rw [List.take_length, List.take_of_length_le (by have := D2.out; omega)] at h
        exact h
      have HEM := Lib.hid he; clear he
      clear HE
      go_wp2
      go_loopw [6] (fun v W => ∃ k : Nat, k ≤ ps.length ∧ v = .int .i64 k ∧ Aside0 (ps.take k = ps'.take k) ∧ Aside0 (W.heap[w.heap.size]? = some (.cells #[.int .i64 lv, .slice A1 ms.length c1, .slice A2 ps.length c2] 26 (0, 0)) ∧ W.heap[w.heap.size + 1]? = some (.cells #[.int .i64 lv', .slice A1' ms'.length c1', .slice A2' ps'.length c2'] 26 (0, 0)) ∧ Below w.heap.size w W)) (fun v _ => ps.length - (intOf v).toNat)
      case atStart => exact ⟨0, Nat.zero_le _, rfl, ⟨rfl⟩, ⟨HS.out.1, HS.out.2.1, HS.out.2.2⟩⟩
      case round =>
        obtain ⟨k, hk, rfl, HE, HS⟩ := hrel
        clear k0 k1 k2 kl j0 j1 j2 jl
        have HB := Lib.hid HS.out.2.2
        obtain ⟨k0, k1, k2, _, _, _, kl⟩ := three_cells HS.out.1
        obtain ⟨j0, j1, j2, _, _, _, jl⟩ := three_cells HS.out.2.1
        by_cases hlt : k < ps.length
        · obtain ⟨ad, hA, h0, h1, h2⟩ := at_T48 (Kd.C_below HR2.out HB.out) k (by omega) (by omega)
          obtain ⟨ad', hA', h0', h1', h2'⟩ := at_T48 (Kd.C_below HR4.out HB.out) k (by omega) (by have := D3.out; omega)
          subst hA; subst hA'
          rw [Int.toNat_natCast] at h0 h1 h2 h0' h1' h2'
          have b1 : (0 : Int) ≤ k := by omega
          have b2 : (k : Int) < ps.length := by omega
          have b3 : (k : Int) < ps'.length := by have := D3.out; omega
          have hs1 : ∀ (l : List S48), k < l.length → l.take (k + 1) = l.take k ++ [rd_T48 l k] := by
            intro l hl
            rw [List.take_add_one, List.getElem?_eq_getElem hl]
            simp only [rd_T48, Int.toNat_natCast, List.getD_eq_getElem?_getD, List.getElem?_eq_getElem hl, Option.getD_some, Option.toList_some]
          have HT1 := Lib.hid (hs1 ps hlt)
          have HT2 := Lib.hid (hs1 ps' (by have := D3.out; omega))
          clear hs1
          generalize rd_T48 ps k = x at *
          generalize rd_T48 ps' k = y at *
          have HNE := Lib.hid (show ¬ x = y → ¬ ps = ps' by
            intro hne he
            have h := congrArg (List.take (k + 1)) he
            rw [HT1.out, HT2.out, HE.out] at h
            have h2 := List.append_cancel_left h
            injection h2 with h2
            exact hne h2)
          by_cases d0 : x.f0 = y.f0
          rotate_left
          · have q0 : (x.f0 == y.f0) = false := by simpa using d0
            have HR := Lib.hid (HX.out.trans (decide_eq_false (fun h => HNE.out (fun e => d0 (by rw [e])) h.2.2)))
            go_wp2_with fail
            go_quiet (fail)
            go_wp2
            go_ret
            exact ⟨ret_bool HR.out.symm, pw_below_drewN HB.out _⟩
          have q0 : (x.f0 == y.f0) = true := by simpa using d0
          have E0 := Lib.hid d0; clear d0
          by_cases d1 : x.f1 = y.f1
          rotate_left
          · have q1 : (x.f1 == y.f1) = false := by simpa using d1
            have HR := Lib.hid (HX.out.trans (decide_eq_false (fun h => HNE.out (fun e => d1 (by rw [e])) h.2.2)))
            go_wp2_with fail
            go_quiet (fail)
            go_wp2
            go_ret
            exact ⟨ret_bool HR.out.symm, pw_below_drewN HB.out _⟩
          have q1 : (x.f1 == y.f1) = true := by simpa using d1
          have E1 := Lib.hid d1; clear d1
          by_cases d2 : x.f2 = y.f2
          rotate_left
          · have q2 : (x.f2 == y.f2) = false := by simpa using d2
            have HR := Lib.hid (HX.out.trans (decide_eq_false (fun h => HNE.out (fun e => d2 (by rw [e])) h.2.2)))
            go_wp2_with fail
            go_quiet (fail)
            go_wp2
            go_ret
            exact ⟨ret_bool HR.out.symm, pw_below_drewN HB.out _⟩
          have q2 : (x.f2 == y.f2) = true := by simpa using d2
          have E2 := Lib.hid d2; clear d2
          have HXY := Lib.hid (show x = y by cases x; cases y; simp only at *; have e0 := E0.out; have e1 := E1.out; have e2 := E2.out; all_goals (subst e0; subst e1; subst e2; rfl))
          go_wp2_with fail
          go_quiet (fail)
          go_wp2
          go_roundw
          case rel => exact ⟨k + 1, by omega, by go_num, ⟨by rw [HT1.out, HT2.out, HE.out, HXY.out]⟩, ⟨HS.out.1, HS.out.2.1, pw_below_drewN HS.out.2.2 _⟩⟩
          case measure => simp [intOf]; omega
        · obtain rfl : k = ps.length := by omega
          have he : ps = ps' := by
            have h := HE.out
            rw [List.take_length, List.take_of_length_le (by have := D3.out; omega)] at h
            exact h
          have HEP := Lib.hid he; clear he
          have HR := Lib.hid (HX.out.trans (decide_eq_true ⟨D1.out, HEM.out, HEP.out⟩))
          go_wp2
          go_ret
          exact ⟨ret_bool HR.out.symm, HB.out⟩
end Go.Proofs.Ytdbgpakmbjhmgaa.H
