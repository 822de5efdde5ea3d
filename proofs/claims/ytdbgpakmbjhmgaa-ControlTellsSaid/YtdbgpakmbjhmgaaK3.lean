/- Parts of the proof, merged: Da, Db, Dc, Dd, De, Df, Dg, Dh, Di. -/
import Derived.Test.YtdbgpakmbjhmgaaK2
import Derived.Deep.RegionLaw
import Derived.BigRegion
/- The document's: bin, member, Right, place. -/
namespace Go.Proofs.Ytdbgpakmbjhmgaa.H
open Go.RowKit Go.Proofs.YtdbgpakmbjhmgaaW.PrintWords Go.Proofs.YtdbgpakmbjhmgaaW.PrintLast Go.Proofs.YtdbgpakmbjhmgaaW.PrintMore
set_option linter.unusedVariables false
set_option linter.unusedSimpArgs false

def binR (lv n : Int) : Bool := n == 2 || (n == 1 && lv == 1)
set_option maxHeartbeats 400000 in
theorem binR_calls (lv n : Int) (w : World) : Calls Try.prog 39 #[.int .i64 lv, .int .i64 n] w fun e w' => e = .returned (.bool (binR lv n)) ∧ w = w' := by
  go_enter Try.func39, Try.ntmps39
  go_wp2
  all_goals (go_ret; refine ⟨?_, rfl⟩; simp_all [binR])

def placeAt (ms : List S45) (name : Int) : Int := idx (named name) ms 0
theorem placeAt_neg (ms : List S45) (name : Int) : decide (placeAt ms name < 0) = !hasM ms name := by
  have h := idx_any (named name) ms 0
  rw [show ms.any (named name) = hasM ms name from rfl] at h
  rw [← h]
  unfold placeAt
  by_cases h2 : 0 ≤ idx (named name) ms 0
  · simp [h2]
  · have : idx (named name) ms 0 < 0 := by omega
    simp [h2, this]

set_option maxHeartbeats 1000000 in
set_option maxRecDepth 100000 in
theorem member_calls (lv : Int) (A1 : Option Addr) (c1 : Nat) (ms : List S45) (v2 : Value) (name : Int) (w : World) (hr1 : Kd.C k45 w A1 ms.length ms) :
    Calls Try.prog 40 #[.agg #[.int .i64 lv, .slice A1 ms.length c1, v2], .int .i64 name] w fun e w' => e = .returned (.int .i64 (placeAt ms name)) ∧ Below w.heap.size w w' := by
  have hm : ms.length ≤ 9223372036854775807 := hr1.2.1
  have HR1 := Lib.hid hr1; clear hr1
  have HP := Lib.hid (show placeAt ms name = idx (named name) ms 0 from rfl)
  generalize placeAt ms name = r at *
  generalize hW0 : w.alloc (.cells #[.int .i64 lv, .slice A1 ms.length c1, v2] 26) = W0
  have HB0 := Lib.hid (show Below w.heap.size w W0 by rw [← hW0]; exact below_alloc (Below.refl _ _) _)
  have HK0 := Lib.hid (show W0.heap[w.heap.size]? = some (.cells #[.int .i64 lv, .slice A1 ms.length c1, v2] 26 (0, 0)) by rw [← hW0]; exact new_at (by simp) _)
  have HW0 := Lib.hid hW0; clear hW0
  obtain ⟨k0, k1, k2, _, _, _, _⟩ := three_cells HK0.out
  go_enter Try.func40, Try.ntmps40
  go_upto_region 1 with (fail)
  rw [HW0.out]
  go_wp2
  go_loopw [5] (fun v5 W => ∃ k : Nat, k ≤ ms.length ∧ v5 = .int .i64 k ∧ Aside0 (r = idx (named name) (ms.drop k) k) ∧ W = W0) (fun v5 _ => ms.length - (intOf v5).toNat)
  case atStart => exact ⟨0, Nat.zero_le _, rfl, ⟨HP.out⟩, rfl⟩
  case round =>
    obtain ⟨k, hk, rfl, HE, rfl⟩ := hrel
    by_cases hlt : k < ms.length
    · obtain ⟨ad, rfl, h0, h1⟩ := at_T45 (Kd.C_below HR1.out HB0.out) k (by omega) (by omega)
      rw [Int.toNat_natCast] at h0 h1
      have hp : (((rd_T45 ms k).f0 = name) ∧ r = k) ∨ (¬ (rd_T45 ms k).f0 = name ∧ r = idx (named name) (ms.drop (k + 1)) (k + 1)) := by
        rw [HE.out, List.drop_eq_getElem_cons hlt, idx]
        simp only [rd_T45, Int.toNat_natCast, List.getD_eq_getElem?_getD, List.getElem?_eq_getElem hlt, Option.getD_some, named]
        by_cases h : ms[k].f0 = name <;> simp [h]
      have HP2 := Lib.hid hp; clear hp
      generalize rd_T45 ms k = x at *
      have c1 : (0 : Int) ≤ k := by omega
      have c2 : (k : Int) < ms.length := by omega
      by_cases hx : x.f0 = name
      · have hq : (x.f0 == name) = true := by simpa using hx
        have HI := Lib.hid (show r = k by rcases HP2.out with ⟨_, h⟩ | ⟨h, _⟩; exact h; exact absurd hx h)
        clear hx
        go_wp2
        go_ret
        exact ⟨ret_int (by rw [HI.out]), HB0.out⟩
      · have hq : (x.f0 == name) = false := by simpa using hx
        have HI := Lib.hid (show r = idx (named name) (ms.drop (k + 1)) (k + 1) by rcases HP2.out with ⟨h, _⟩ | ⟨_, h⟩; exact absurd h hx; exact h)
        clear hx
        go_wp2
        go_roundw
        case rel => exact ⟨k + 1, by omega, by go_num, ⟨HI.out⟩, trivial⟩
        case measure => simp [intOf]; omega
    · obtain rfl : k = ms.length := by omega
      have HI := Lib.hid (HE.out.trans (by rw [List.drop_eq_nil_of_le (by omega)]; rfl) : r = -1)
      go_wp2
      go_ret
      exact ⟨ret_int (by rw [HI.out]), HB0.out⟩
end Go.Proofs.Ytdbgpakmbjhmgaa.H

/- The document's Right. -/
namespace Go.Proofs.Ytdbgpakmbjhmgaa.H
open Go.RowKit Go.Proofs.YtdbgpakmbjhmgaaW.PrintWords Go.Proofs.YtdbgpakmbjhmgaaW.PrintLast Go.Proofs.YtdbgpakmbjhmgaaW.PrintMore
set_option linter.unusedVariables false
set_option linter.unusedSimpArgs false

def topOk (lv : Int) (n1 n2 : Nat) : Bool := (lv == 1 || lv == 2) && decide (1 ≤ n1) && decide (n1 ≤ 8) && decide (1 ≤ n2) && decide (n2 ≤ 8)
def membersR (lv : Int) : List S45 → Int → Bool
  | [], _ => true
  | m :: ms, last => if m.f0 ≤ last then false else if 100 < m.f0 then false else if binR lv m.f1 = false then false else membersR lv ms m.f0
def rightR (lv : Int) (ms : List S45) (ps : List S48) : Bool := topOk lv ms.length ps.length && (membersR lv ms 0 && !ps.any (oddP ms))

theorem membersR_eq (lv : Int) (h : lv = 1 ∨ lv = 2) : ∀ (ms : List S45) (last : Int), membersR lv ms last = membersGo lv ms last
  | [], _ => rfl
  | m :: ms, last => by
    rw [membersR, membersGo, membersR_eq lv h ms]
    have hb : binR lv m.f1 = false ↔ (version m.f1 = false ∨ m.f1 < lv) := by
      rcases h with rfl | rfl
      · simp only [binR, version, Bool.or_eq_false_iff, beq_eq_false_iff_ne, Bool.and_eq_false_imp, beq_iff_eq]
        constructor
        · intro ⟨h1, h2⟩; left; constructor <;> omega
        · rintro (⟨h1, h2⟩ | h1)
          · exact ⟨h2, fun h => absurd h h1⟩
          · exact ⟨by omega, fun h => by omega⟩
      · simp only [binR, version, Bool.or_eq_false_iff, beq_eq_false_iff_ne, Bool.and_eq_false_imp, beq_iff_eq]
        constructor
        · intro ⟨h1, h2⟩
          by_cases h3 : m.f1 = 1
          · right; omega
          · left; exact ⟨h3, h1⟩
        · rintro (⟨h1, h2⟩ | h1)
          · exact ⟨h2, fun h => absurd h h1⟩
          · exact ⟨by omega, fun h => by decide⟩
    by_cases h1 : m.f0 ≤ last
    · simp [h1]
    by_cases h2 : 100 < m.f0
    · simp [h1, h2]
    by_cases h3 : binR lv m.f1 = false
    · simp [h1, h2, h3, hb.1 h3]
    · have h4 : ¬ (version m.f1 = false ∨ m.f1 < lv) := fun h => h3 (hb.2 h)
      simp [h1, h2, h3, h4]
theorem rightR_eq (lv : Int) (ms : List S45) (ps : List S48) : rightR lv ms ps = rightC lv ms ps := by
  unfold rightR rightC topOk membersOk version
  by_cases h : lv = 1 ∨ lv = 2
  · rw [membersR_eq lv h]
    have h2 : (lv == 1 || lv == 2) = true := by simpa using h
    rw [h2]
    generalize membersGo lv ms 0 = a
    generalize ps.any (oddP ms) = b
    generalize decide (1 ≤ ms.length) = c
    generalize decide (ms.length ≤ 8) = d
    generalize decide (1 ≤ ps.length) = e
    generalize decide (ps.length ≤ 8) = f
    revert a b c d e f
    decide
  · have h2 : (lv == 1 || lv == 2) = false := by simpa using h
    simp [h2]

set_option maxHeartbeats 20000000 in
set_option maxRecDepth 100000 in
theorem rightR_calls0 (lv : Int) (A1 : Option Addr) (c1 : Nat) (ms : List S45) (A2 : Option Addr) (c2 : Nat) (ps : List S48) (w : World)
    (hr1 : Kd.C k45 w A1 ms.length ms) (hr2 : Kd.C k48 w A2 ps.length ps) :
    Calls Try.prog 17 #[.agg #[.int .i64 lv, .slice A1 ms.length c1, .slice A2 ps.length c2]] w fun e w' => e = .returned (.bool (rightR lv ms ps)) ∧ Below w.heap.size w w' := by
  have hm1 : ms.length ≤ 9223372036854775807 := hr1.2.1
  have hm2 : ps.length ≤ 9223372036854775807 := hr2.2.1
  have HR1 := Lib.hid hr1; clear hr1
  have HR2 := Lib.hid hr2; clear hr2
  have HX := Lib.hid (show rightR lv ms ps = (topOk lv ms.length ps.length && (membersR lv ms 0 && !ps.any (oddP ms))) from rfl)
  generalize rightR lv ms ps = r at *
  generalize hW0 : w.alloc (.cells #[.int .i64 lv, .slice A1 ms.length c1, .slice A2 ps.length c2] 26) = W0
  have HB0 := Lib.hid (show Below w.heap.size w W0 by rw [← hW0]; exact below_alloc (Below.refl _ _) _)
  have HK0 := Lib.hid (show W0.heap[w.heap.size]? = some (.cells #[.int .i64 lv, .slice A1 ms.length c1, .slice A2 ps.length c2] 26 (0, 0)) by rw [← hW0]; exact new_at (by simp) _)
  have HW0 := Lib.hid hW0; clear hW0
  obtain ⟨k0, k1, k2, _, _, _, kl⟩ := three_cells HK0.out
  go_enter Try.func17, Try.ntmps17
  go_upto_region 1 with (fail)
  rw [HW0.out]
  go_cut [8, 9, 10, 11, 12, 13, 14, 15, 16, 17, 18, 19, 20, 21, 22, 23, 24, 25, 26, 27, 28, 29, 30, 31, 32, 33, 34, 35, 36, 37, 38, 39] (fun v8 v9 v10 v11 v12 v13 v14 v15 v16 v17 v18 v19 v20 v21 v22 v23 v24 v25 v26 v27 v28 v29 v30 v31 v32 v33 v34 v35 v36 v37 v38 v39 W => v39 = .bool (!topOk lv ms.length ps.length) ∧ W = W0)
  case first =>
    have HT := Lib.hid (show topOk lv ms.length ps.length = ((lv == 1 || lv == 2) && decide (1 ≤ ms.length) && decide (ms.length ≤ 8) && decide (1 ≤ ps.length) && decide (ps.length ≤ 8)) from rfl)
    have hcase : (lv = 1 ∨ lv = 2) ∨ ((lv != 1) = true ∧ (lv != 2) = true) := by
      by_cases h : lv = 1 ∨ lv = 2
      · exact .inl h
      · exact .inr (by simpa using h)
    rcases hcase with h | ⟨h1, h2⟩
    · have HL := Lib.hid (show (lv == 1 || lv == 2) = true by simpa using h)
      have HT2 := Lib.hid (HT.out.trans (by rw [HL.out]))
      have hx : ((lv != 1) = false) ∨ ((lv != 1) = true ∧ (lv != 2) = false) := by rcases h with rfl | rfl <;> simp
      clear h HT HL
      rcases hx with h | ⟨h, h3⟩
      all_goals
        by_cases d1 : 1 ≤ ms.length
        · by_cases d2 : ms.length ≤ 8
          · by_cases d3 : 1 ≤ ps.length
            · by_cases d4 : ps.length ≤ 8
              · go_wp2
                go_meet
                case rel => exact ⟨by rw [HT2.out]; simp [d1, d2, d3, d4] <;> omega, rfl⟩
              · go_wp2
                go_meet
                case rel => exact ⟨by rw [HT2.out]; simp [d1, d2, d3, d4] <;> omega, rfl⟩
            · go_wp2
              go_meet
              case rel => exact ⟨by rw [HT2.out]; simp [d1, d2, d3] <;> omega, rfl⟩
          · go_wp2
            go_meet
            case rel => exact ⟨by rw [HT2.out]; simp [d1, d2] <;> omega, rfl⟩
        · go_wp2
          go_meet
          case rel => exact ⟨by rw [HT2.out]; simp [d1] <;> omega, rfl⟩
    · have HT2 := Lib.hid (HT.out.trans (by rw [show (lv == 1 || lv == 2) = false by simpa using And.intro h1 h2]; simp) : topOk lv ms.length ps.length = false)
      clear HT
      go_wp2
      go_meet
      case rel => exact ⟨by rw [HT2.out]; rfl, rfl⟩
  case rest =>
    obtain ⟨rfl, hwc⟩ := hcut
    obtain rfl : W0 = wc := hwc.symm
    cases ht : topOk lv ms.length ps.length
    · have HR := Lib.hid (HX.out.trans (by rw [ht]; rfl) : r = false); clear ht
      go_wp2
      go_ret
      exact ⟨ret_bool HR.out.symm, HB0.out⟩
    have HX2 := Lib.hid (HX.out.trans (by rw [ht]; rfl) : r = (membersR lv ms 0 && !ps.any (oddP ms))); clear ht HX
    go_wp2
    go_loopw [3, 4, 5] (fun v3 v4 v5 W => ∃ (k : Nat) (last : Int), k ≤ ms.length ∧ v4 = .int .i64 k ∧ v3 = .int .i64 last ∧ Aside0 (r = (membersR lv (ms.drop k) last && !ps.any (oddP ms))) ∧ Aside0 (Below W0.heap.size W0 W)) (fun _ v4 _ _ => ms.length - (intOf v4).toNat)
    case atStart => exact ⟨0, 0, Nat.zero_le _, rfl, rfl, ⟨HX2.out⟩, ⟨Below.refl _ _⟩⟩
    case round =>
      obtain ⟨k, last, hk, rfl, rfl, HE, HB⟩ := hrel
      clear k0 k1 k2
      obtain ⟨k0, k1, k2, _, _, _, kl2⟩ := three_cells (kept_on HB.out HK0.out)
      have HBW := Lib.hid (below_then HB0.out HB0.out.size HB.out)
      by_cases hlt : k < ms.length
      · obtain ⟨ad, rfl, h0, h1⟩ := at_T45 (Kd.C_below HR1.out HBW.out) k (by omega) (by omega)
        rw [Int.toNat_natCast] at h0 h1
        have hp : r = (membersR lv (rd_T45 ms k :: ms.drop (k + 1)) last && !ps.any (oddP ms)) := by
          rw [HE.out, List.drop_eq_getElem_cons hlt]
          simp only [rd_T45, Int.toNat_natCast, List.getD_eq_getElem?_getD, List.getElem?_eq_getElem hlt, Option.getD_some]
        rw [membersR] at hp
        have HP2 := Lib.hid hp; clear hp
        generalize rd_T45 ms k = x at *
        have c1 : (0 : Int) ≤ k := by omega
        have c2 : (k : Int) < ms.length := by omega
        have HBN := Lib.hid (below_alloc HBW.out (.cells #[.int .i64 x.f0, .int .i64 x.f1] 45))
        have HBN0 := Lib.hid (below_alloc HB.out (.cells #[.int .i64 x.f0, .int .i64 x.f1] 45))
        by_cases d1 : x.f0 ≤ last
        · have HR := Lib.hid (HP2.out.trans (by rw [if_pos d1]; rfl) : r = false)
          go_wp2
          go_ret
          exact ⟨ret_bool HR.out.symm, HBN.out⟩
        by_cases d2 : 100 < x.f0
        · have HR := Lib.hid (HP2.out.trans (by rw [if_neg d1, if_pos d2]; rfl) : r = false)
          go_wp2
          go_ret
          exact ⟨ret_bool HR.out.symm, HBN.out⟩
        cases d3 : binR lv x.f1
        · have HR := Lib.hid (HP2.out.trans (by rw [if_neg d1, if_neg d2, if_pos d3]; rfl) : r = false)
          go_wp2_with (go_at_call 39; refine (binR_calls _ _ _).mono ?_; rintro e W' ⟨rfl, rfl⟩)
          go_ret
          exact ⟨ret_bool HR.out.symm, HBN.out⟩
        · have HI := Lib.hid (HP2.out.trans (by rw [if_neg d1, if_neg d2, if_neg (by rw [d3]; decide)]) : r = (membersR lv (ms.drop (k + 1)) x.f0 && !ps.any (oddP ms)))
          go_wp2_with (go_at_call 39; refine (binR_calls _ _ _).mono ?_; rintro e W' ⟨rfl, rfl⟩)
          go_roundw
          case rel => exact ⟨k + 1, x.f0, by omega, by go_num, rfl, ⟨HI.out⟩, ⟨HBN0.out⟩⟩
          case measure => simp [intOf]; omega
      · obtain rfl : k = ms.length := by omega
        have HI := Lib.hid (HE.out.trans (by rw [List.drop_eq_nil_of_le (by omega), membersR, Bool.true_and]) : r = !ps.any (oddP ms))
        clear HE HX2
        go_wp2
        clear k0 k1 k2 kl2 kl
        go_loopw [6] (fun v6 W => ∃ k : Nat, k ≤ ps.length ∧ v6 = .int .i64 k ∧ Aside0 (r = !(ps.drop k).any (oddP ms)) ∧ Aside0 (Below W0.heap.size W0 W)) (fun v6 _ => ps.length - (intOf v6).toNat)
        case atStart => exact ⟨0, Nat.zero_le _, rfl, ⟨HI.out⟩, ⟨HB.out⟩⟩
        case round =>
          obtain ⟨j, hj, rfl, HE2, HBj⟩ := hrel
          clear HI
          have HKj := Lib.hid (kept_on HBj.out HK0.out)
          have HBW2 := Lib.hid (below_then HB0.out HB0.out.size HBj.out)
          obtain ⟨k0, k1, k2, _, _, _, kl2⟩ := three_cells HKj.out
          by_cases hlt : j < ps.length
          · obtain ⟨ad, rfl, h0, h1, h2⟩ := at_T48 (Kd.C_below HR2.out HBW2.out) j (by omega) (by omega)
            rw [Int.toNat_natCast] at h0 h1 h2
            have hp : r = !(oddP ms (rd_T48 ps j) || (ps.drop (j + 1)).any (oddP ms)) := by
              rw [HE2.out, List.drop_eq_getElem_cons hlt, List.any_cons]
              simp only [rd_T48, Int.toNat_natCast, List.getD_eq_getElem?_getD, List.getElem?_eq_getElem hlt, Option.getD_some]
            have HP2 := Lib.hid hp; clear hp
            generalize rd_T48 ps j = p at *
            have b1 : (0 : Int) ≤ j := by omega
            have b2 : (j : Int) < ps.length := by omega
            generalize hW1 : wr.alloc (.cells #[.int .i64 p.f0, .int .i64 p.f1, .int .i64 p.f2] 48) = W1
            have hb1 : Below wr.heap.size wr W1 := by rw [← hW1]; exact below_alloc (Below.refl _ _) _
            have HB1 := Lib.hid (below_then HBW2.out HBW2.out.size hb1)
            have HB10 := Lib.hid (below_then HBj.out HBj.out.size hb1)
            have HP1 := Lib.hid (show W1.heap[wr.heap.size]? = some (.cells #[.int .i64 p.f0, .int .i64 p.f1, .int .i64 p.f2] 48 (0, 0)) by rw [← hW1]; exact heap_alloc_new _ _)
            have HK1 := Lib.hid (kept_on hb1 HKj.out)
            have HW1 := Lib.hid hW1; clear hW1 hb1
            have HC1 := Lib.hid (member_calls lv A1 c1 ms (.slice (some ad) ps.length c2) p.f0 W1 (Kd.C_below HR1.out HB1.out))
            have HO := Lib.hid (show oddP ms p = (!hasM ms p.f0 || decide (p.f1 < 1) || decide (9007199254740992 < p.f1) || (!(p.f2 == 0) && (!hasM ms p.f2 || p.f2 == p.f0))) from rfl)
            go_upto_region 15 with (fail)
            rw [HW1.out]
            clear k0 k1 k2 kl2
            obtain ⟨k0, k1, k2, _, _, _, kl2⟩ := three_cells HK1.out
            obtain ⟨p0, p1, p2, _, _, _, kl3⟩ := three_cells HP1.out
            go_wp2_with fail
            refine HC1.out.mono ?_
            rintro e W2 ⟨rfl, hb2⟩
            have HB2 := Lib.hid (below_then HB1.out HB1.out.size hb2)
            have HB20 := Lib.hid (below_then HB10.out HB10.out.size hb2)
            have HK2 := Lib.hid (kept_on hb2 HK1.out)
            have HP3 := Lib.hid (kept_on hb2 HP1.out)
            have HC2 := Lib.hid (member_calls lv A1 c1 ms (.slice (some ad) ps.length c2) p.f2 W2 (Kd.C_below HR1.out HB2.out))
            clear k0 k1 k2 kl2 p0 p1 p2 kl3 hb2 HC1
            obtain ⟨k0, k1, k2, _, _, _, kl2⟩ := three_cells HK2.out
            obtain ⟨p0, p1, p2, _, _, _, kl3⟩ := three_cells HP3.out
            rw [← Bool.not_not (hasM ms p.f0), ← placeAt_neg, ← Bool.not_not (hasM ms p.f2), ← placeAt_neg] at HO
            generalize placeAt ms p.f0 = i0 at *
            generalize placeAt ms p.f2 = i2 at *
            have HO2 := Lib.hid (show oddP ms p = (decide (i0 < 0) || decide (p.f1 < 1) || decide (9007199254740992 < p.f1) || (!(p.f2 == 0) && (decide (i2 < 0) || p.f2 == p.f0))) by rw [HO.out]; simp only [Bool.not_not])
            clear HO
            generalize oddP ms p = od at *
            generalize hrs : (ps.drop (j + 1)).any (oddP ms) = rs at *
            have HRS := Lib.hid hrs; clear hrs HE2
            by_cases d0 : i0 < 0
            · have HR := Lib.hid (HP2.out.trans (by rw [HO2.out]; simp [d0]) : r = false)
              go_wp2
              go_ret
              exact ⟨ret_bool HR.out.symm, HB2.out⟩
            by_cases d1 : p.f1 < 1
            · have HR := Lib.hid (HP2.out.trans (by rw [HO2.out]; simp [d1]) : r = false)
              go_wp2
              go_ret
              exact ⟨ret_bool HR.out.symm, HB2.out⟩
            by_cases d2 : 9007199254740992 < p.f1
            · have HR := Lib.hid (HP2.out.trans (by rw [HO2.out]; simp [d2]) : r = false)
              go_wp2
              go_ret
              exact ⟨ret_bool HR.out.symm, HB2.out⟩
            by_cases d3 : p.f2 = 0
            · have d3a : (p.f2 != 0) = false := by simpa using d3
              have HI := Lib.hid (HP2.out.trans (by rw [HO2.out, decide_eq_false d0, decide_eq_false d1, decide_eq_false d2, show (p.f2 == 0) = true by simpa using d3]; rfl) : r = !rs)
              go_wp2
              go_roundw
              case rel => exact ⟨j + 1, by omega, by go_num, ⟨HI.out.trans (by rw [HRS.out])⟩, ⟨HB20.out⟩⟩
              case measure => simp [intOf]; omega
            have d3a : (p.f2 != 0) = true := by simpa using d3
            by_cases d4 : i2 < 0
            · have HR := Lib.hid (HP2.out.trans (by rw [HO2.out, decide_eq_false d0, decide_eq_false d1, decide_eq_false d2, decide_eq_true d4, show (p.f2 == 0) = false by simpa using d3]; rfl) : r = false)
              go_wp2_with (go_at_call 40; refine HC2.out.mono ?_; rintro e W3 ⟨rfl, hb3⟩; have HP4 := Lib.hid (kept_on hb3 HP3.out); obtain ⟨p0', p1', p2', _, _, _, kl4⟩ := three_cells HP4.out)
              go_ret
              exact ⟨ret_bool HR.out.symm, below_then HB2.out HB2.out.size hb3⟩
            by_cases d5 : p.f2 = p.f0
            · have d5a : (p.f2 == p.f0) = true := by simpa using d5
              clear d5
              have HR := Lib.hid (HP2.out.trans (by rw [HO2.out, decide_eq_false d0, decide_eq_false d1, decide_eq_false d2, decide_eq_false d4, d5a, show (p.f2 == 0) = false by simpa using d3]; rfl) : r = false)
              go_wp2_with (go_at_call 40; refine HC2.out.mono ?_; rintro e W3 ⟨rfl, hb3⟩; have HP4 := Lib.hid (kept_on hb3 HP3.out); obtain ⟨p0', p1', p2', _, _, _, kl4⟩ := three_cells HP4.out)
              go_ret
              exact ⟨ret_bool HR.out.symm, below_then HB2.out HB2.out.size hb3⟩
            have d5a : (p.f2 == p.f0) = false := by simpa using d5
            · have HI := Lib.hid (HP2.out.trans (by rw [HO2.out, decide_eq_false d0, decide_eq_false d1, decide_eq_false d2, decide_eq_false d4, d5a, show (p.f2 == 0) = false by simpa using d3]; rfl) : r = !rs)
              go_wp2_with (go_at_call 40; refine HC2.out.mono ?_; rintro e W3 ⟨rfl, hb3⟩; have HP4 := Lib.hid (kept_on hb3 HP3.out); obtain ⟨p0', p1', p2', _, _, _, kl4⟩ := three_cells HP4.out)
              go_roundw
              case rel => exact ⟨j + 1, by omega, by go_num, ⟨HI.out.trans (by rw [HRS.out])⟩, ⟨below_then HB20.out HB20.out.size hb3⟩⟩
              case measure => simp [intOf]; omega
          · obtain rfl : j = ps.length := by omega
            have HR := Lib.hid (HE2.out.trans (by rw [List.drop_eq_nil_of_le (by omega)]; rfl) : r = true)
            go_wp2
            go_ret
            exact ⟨ret_bool HR.out.symm, HBW2.out⟩

theorem right18_calls (lv : Int) (A1 : Option Addr) (c1 : Nat) (ms : List S45) (A2 : Option Addr) (c2 : Nat) (ps : List S48) (w : World)
    (hr1 : Kd.C k45 w A1 ms.length ms) (hr2 : Kd.C k48 w A2 ps.length ps) :
    Calls Try.prog 17 #[.agg #[.int .i64 lv, .slice A1 ms.length c1, .slice A2 ps.length c2]] w fun e w' => e = .returned (.bool (rightC lv ms ps)) ∧ Below w.heap.size w w' := by
  rw [← rightR_eq]
  exact rightR_calls0 lv A1 c1 ms A2 c2 ps w hr1 hr2
end Go.Proofs.Ytdbgpakmbjhmgaa.H

/- own; appends by a run. -/
namespace Go.Proofs.Ytdbgpakmbjhmgaa.H
open Go.RowKit Go.Proofs.YtdbgpakmbjhmgaaW.PrintWords Go.Proofs.YtdbgpakmbjhmgaaW.PrintLast Go.Proofs.YtdbgpakmbjhmgaaW.PrintMore
set_option linter.unusedVariables false
set_option linter.unusedSimpArgs false

theorem run_append {P : Program} {α : Type} (d : Kd α) {Rr : α → List Value → Prop} {w0 W : World} (base : Nat) (t e : TypeId) (z : Value) (bytes : Nat)
    (ht : P.underlying t = some (.slice e)) (hinfo : (P.info? e).map (fun i => (i.zero, i.size, i.bytes)) = some (some z, d.sz, bytes)) (hz : z.cells.size = d.sz) (hs0 : 0 < d.sz) (hb0 : 0 < bytes)
    (v : Value) (xs ys : List α) (A : Option Addr) (m c : Nat) (ok okp : Nat → Prop)
    (HO : d.R e W base ok v xs) (HR : ReadsRow Rr d.sz W A m ys) (hKM : ∀ x cs, Rr x cs → d.M W base okp x cs) (hokp : ∀ k, okp k → ok k ∧ some k ≠ v.ownBlock) (hfresh : ∀ k, W.heap.size ≤ k → ok k)
    (HB : Below base w0 W) (hbase : base ≤ W.heap.size) (hl : (xs.length + m) * bytes ≤ 140737488355328) :
    ∃ v1 w1, (Builtin.append_ #[t, t] t #[v, .slice A m c]).run P W = .ok v1 w1 ∧ d.R e w1 base ok v1 (xs ++ ys) ∧ Below base w0 w1 ∧ W.grownBy w1 v.ownBlock ∧ (v1.ownBlock = v.ownBlock ∨ ∃ b, v1.ownBlock = some b ∧ W.heap.size ≤ b) := by
  have h := Kd.R_append_rows_step (P := P) (ops := #[]) (o := { dst := some 0, op := .call { callee := .builtin .append, args := #[.const v, .const (.slice A m c)], argTypes := #[t, t] }, type := t, pos := "", after := #[], guard := none })
    (a := { tmps := #[undef], defers := [] }) (Q := fun _ _ _ => False) (Kc := fun a' w' => ∃ v1, a'.tmps.getD 0 undef = v1 ∧ d.R e w' base ok v1 (xs ++ ys) ∧ Below base w0 w' ∧ W.grownBy w' v.ownBlock ∧ (v1.ownBlock = v.ownBlock ∨ ∃ b, v1.ownBlock = some b ∧ W.heap.size ≤ b))
    d (Rr := Rr) (w0 := w0) (W := W) base rfl (.const v) (.const (.slice A m c)) t e z bytes rfl ht hinfo hz hs0 hb0 v xs ys A m c ok okp rfl rfl HO HR hKM hokp hfresh HB hbase hl
    (fun v1 w1 h1 h2 h3 h4 => ⟨v1, rfl, h1, h2, h3, h4⟩)
  split at h
  · unfold Oper.wp at h
    simp [execOp, resolve, invoke, builtin, Act.eval] at h
    generalize (Builtin.append_ #[t, t] t #[v, .slice A m c]).run P W = r at h
    cases r with
    | ok v1 w1 =>
      simp [Result.andThen, Oper.upon_value, Act.put] at h
      exact ⟨v1, w1, rfl, h⟩
    | halt x w1 =>
      cases x <;> exact False.elim h
  · rename_i hc
    exact absurd rfl hc

theorem own_set {W : World} {g : Nat} {x y z : Value} (h : W.heap[g]? = some (.cells #[x, y, z] 26 (0, 0))) (lv : Int) (s1 s2 : Value) :
    (((W.setCell ⟨g, 0, none⟩ (.int .i64 lv)).setCell ⟨g, 1, none⟩ s1).setCell ⟨g, 2, none⟩ s2).heap[g]? = some (.cells #[.int .i64 lv, s1, s2] 26 (0, 0)) := by
  have e1 := blk_set h 0 (.int .i64 lv)
  have e2 := blk_set e1 1 s1
  have e3 := blk_set e2 2 s2
  simpa using e3
theorem own_R {α : Type} {d : Kd α} {e : Nat} {W : World} {b b' g : Nat} {v x y z : Value} {l : List α} {a0 a1 a2 : Value} (h : Kd.R d e W b (fun _ => True) v l) (hg : W.heap[g]? = some (.cells #[x, y, z] 26 (0, 0))) (hb : b' ≤ b) (ht : ∀ q, q ∈ e :: d.E → q ≠ 26) :
    Kd.R d e (((W.setCell ⟨g, 0, none⟩ a0).setCell ⟨g, 1, none⟩ a1).setCell ⟨g, 2, none⟩ a2) b' (fun _ => True) v l := by
  have e1 := blk_set hg 0 a0
  have e2 := blk_set e1 1 a1
  exact Kd.R_lower (Kd.R_set (Kd.R_set (Kd.R_set h hg ht 0 _) e1 ht 1 _) e2 ht 2 _) hb
theorem own_keep {α : Type} {d : Kd α} {e : Nat} {W W' : World} {b : Nat} {v : Value} {l : List α} (h : Kd.R d e W b (fun _ => True) v l) (hg : W.grownBy W' (Value.slice none 0 0).ownBlock) : Kd.R d e W' b (fun _ => True) v l :=
  Kd.R_step h (fun k _ hlt => hg.block k hlt (by simp [Value.ownBlock]))

set_option maxHeartbeats 4000000 in
set_option maxRecDepth 100000 in
theorem own_calls (lv : Int) (A1 : Option Addr) (c1 : Nat) (ms : List S45) (A2 : Option Addr) (c2 : Nat) (ps : List S48) (w : World)
    (hr1 : Kd.C k45 w A1 ms.length ms) (hr2 : Kd.C k48 w A2 ps.length ps) (hl1 : ms.length * 16 ≤ 140737488355328) (hl2 : ps.length * 24 ≤ 140737488355328) :
    Calls Try.prog 43 #[.agg #[.int .i64 lv, .slice A1 ms.length c1, .slice A2 ps.length c2]] w fun e w' => ∃ v1 v2, e = .returned (.agg #[.int .i64 lv, v1, v2]) ∧ Kd.R k45 45 w' w.heap.size (fun _ => True) v1 ms ∧ Kd.R k48 48 w' w.heap.size (fun _ => True) v2 ps ∧ Below w.heap.size w w' := by
  have HR1 := Lib.hid hr1; clear hr1
  have HR2 := Lib.hid hr2; clear hr2
  have HL1 := Lib.hid hl1; clear hl1
  have HL2 := Lib.hid hl2; clear hl2
  generalize hW0 : (w.alloc (.cells #[.int .i64 lv, .slice A1 ms.length c1, .slice A2 ps.length c2] 26)).alloc (.cells #[.int .i64 0, .slice none 0 0, .slice none 0 0] 26) = W0
  have HB0 := Lib.hid (show Below w.heap.size w W0 by rw [← hW0]; exact below_alloc (below_alloc (Below.refl _ _) _) _)
  have HK0 := Lib.hid (show W0.heap[w.heap.size]? = some (.cells #[.int .i64 lv, .slice A1 ms.length c1, .slice A2 ps.length c2] 26 (0, 0)) by rw [← hW0]; exact alloc_on (new_at (by simp) _) _)
  have HZ0 := Lib.hid (show W0.heap[w.heap.size + 1]? = some (.cells #[.int .i64 0, .slice none 0 0, .slice none 0 0] 26 (0, 0)) by rw [← hW0]; exact new_at (by simp) _)
  have HW0 := Lib.hid hW0; clear hW0
  obtain ⟨k0, k1, k2, _, _, _, kl⟩ := three_cells HK0.out
  obtain ⟨z0, z1, z2, z3, z4, z5, z6⟩ := three_cells HZ0.out
  go_enter Try.func43, Try.ntmps43
  go_upto_region 1 with (fail)
  rw [HW0.out]
  go_cut [3, 4, 5, 6, 7, 8, 9, 10, 11] (fun v3 v4 v5 v6 v7 v8 v9 v10 v11 W => ∃ u1 u2, W.heap[w.heap.size + 1]? = some (.cells #[.int .i64 lv, u1, u2] 26 (0, 0)) ∧ Kd.R k45 45 W w.heap.size (fun _ => True) u1 ms ∧ Kd.R k48 48 W w.heap.size (fun _ => True) u2 ps ∧ Below w.heap.size w W)
  case first =>
    go_region_law (first
      | (refine Kd.R_append_rows_step k45 (w0 := W0) W0.heap.size (by rfl) (.const (.slice none 0 0)) (.tmp 6) 23 45 (.agg #[(.int .i64 0), (.int .i64 0)]) 16 (by rfl) Try.underlying23 info45 (by rfl) (by decide) (by omega) (.slice none 0 0) [] ms A1 ms.length c1 (fun _ => True) (fun _ => False) (by rfl) (by rfl) (Kd.R_nil _ _ _ _ _) ?aR (fun _ _ h => h) (fun _ h => h.elim) (fun _ _ => trivial) ?aB ?aS ?aL ?_; (case aR => exact Kd.C_below HR1.out (below_then HB0.out HB0.out.size (by first | exact hb2 | exact pw_below_drewN (Below.refl W0.heap.size W0) 1))); (case aB => first | exact hb2 | exact pw_below_drewN (Below.refl W0.heap.size W0) 1); (case aS => first | exact hb2.size | exact (pw_below_drewN (Below.refl W0.heap.size W0) 1).size); (case aL => have := HL1.out; simp; omega); intro v1 w1 ho1 hb1 hg1 hat1; obtain ⟨A1', c1', rfl⟩ := Kd.R_slice ho1; have HG1 := Lib.hid (kept_on hb1 HK0.out); obtain ⟨x10, x11, x12, _, _, _, _⟩ := three_cells HG1.out; have HZ1 := Lib.hid (kept_on hb1 HZ0.out); obtain ⟨y10, y11, y12, y13, y14, y15, y16⟩ := three_cells HZ1.out)
      | (refine Kd.R_append_rows_step k48 (w0 := W0) W0.heap.size (by rfl) (.const (.slice none 0 0)) (.tmp 9) 24 48 (.agg #[(.int .i64 0), (.int .i64 0), (.int .i64 0)]) 24 (by rfl) Try.underlying24 info48 (by rfl) (by decide) (by omega) (.slice none 0 0) [] ps A2 ps.length c2 (fun _ => True) (fun _ => False) (by rfl) (by rfl) (Kd.R_nil _ _ _ _ _) ?aR (fun _ _ h => h) (fun _ h => h.elim) (fun _ _ => trivial) ?aB ?aS ?aL ?_; (case aR => exact Kd.C_below HR2.out (below_then HB0.out HB0.out.size (by first | exact hb1 | exact pw_below_drewN (Below.refl W0.heap.size W0) 1))); (case aB => first | exact hb1 | exact pw_below_drewN (Below.refl W0.heap.size W0) 1); (case aS => first | exact hb1.size | exact (pw_below_drewN (Below.refl W0.heap.size W0) 1).size); (case aL => have := HL2.out; simp; omega); intro v2 w2 ho2 hb2 hg2 hat2; obtain ⟨A2', c2', rfl⟩ := Kd.R_slice ho2; have HG2 := Lib.hid (kept_on hb2 HK0.out); obtain ⟨x20, x21, x22, _, _, _, _⟩ := three_cells HG2.out; have HZ2 := Lib.hid (kept_on hb2 HZ0.out); obtain ⟨y20, y21, y22, y23, y24, y25, y26⟩ := three_cells HZ2.out))
    all_goals
      go_wp2
      go_meet
      case rel => first
        | exact ⟨_, _, by simpa using own_set HZ2.out lv _ _, own_R (own_keep ho1 hg2) HZ2.out HB0.out.size (by decide), own_R ho2 HZ2.out HB0.out.size (by decide), below_set (below_set (below_set (below_then HB0.out HB0.out.size hb2) (by simp)) (by simp)) (by simp)⟩
        | exact ⟨_, _, by simpa using own_set HZ1.out lv _ _, own_R ho1 HZ1.out HB0.out.size (by decide), own_R (own_keep ho2 hg1) HZ1.out HB0.out.size (by decide), below_set (below_set (below_set (below_then HB0.out HB0.out.size hb1) (by simp)) (by simp)) (by simp)⟩
  case rest =>
    obtain ⟨u1, u2, hg, ho1, ho2, hb⟩ := hcut
    go_wp2
    exact ret_C1 (g := w.heap.size + 1) (lv := lv) (s1 := u1) (s2 := u2) Try.results43 rfl rfl hg ⟨u1, u2, rfl, ho1, ho2, hb⟩
end Go.Proofs.Ytdbgpakmbjhmgaa.H

/- place, Load. -/
namespace Go.Proofs.Ytdbgpakmbjhmgaa.H
open Go.RowKit Go.Proofs.YtdbgpakmbjhmgaaW.PrintWords Go.Proofs.YtdbgpakmbjhmgaaW.PrintLast Go.Proofs.YtdbgpakmbjhmgaaW.PrintMore
set_option linter.unusedVariables false
set_option linter.unusedSimpArgs false

def placeE (shard lv : Int) (ms : List S45) (ps : List S48) : Int := if rightC lv ms ps = false then 1 else if shard < 0 then 83 else if (ps.length : Int) ≤ shard then 83 else 0

set_option maxHeartbeats 2000000 in
set_option maxRecDepth 100000 in
theorem place_calls (shard : Int) (lv : Int) (A1 : Option Addr) (c1 : Nat) (ms : List S45) (A2 : Option Addr) (c2 : Nat) (ps : List S48) (w : World)
    (hr1 : Kd.C k45 w A1 ms.length ms) (hr2 : Kd.C k48 w A2 ps.length ps) :
    Calls Try.prog 58 #[.agg #[.int .i64 lv, .slice A1 ms.length c1, .slice A2 ps.length c2], .int .i64 shard] w fun e w' => e = .returned (.int .i64 (placeE shard lv ms ps)) ∧ Below w.heap.size w w' := by
  have HR1 := Lib.hid hr1; clear hr1
  have HR2 := Lib.hid hr2; clear hr2
  generalize hW0 : w.alloc (.cells #[.int .i64 lv, .slice A1 ms.length c1, .slice A2 ps.length c2] 26) = W0
  have HB0 := Lib.hid (show Below w.heap.size w W0 by rw [← hW0]; exact below_alloc (Below.refl _ _) _)
  have HK0 := Lib.hid (show W0.heap[w.heap.size]? = some (.cells #[.int .i64 lv, .slice A1 ms.length c1, .slice A2 ps.length c2] 26 (0, 0)) by rw [← hW0]; exact new_at (by simp) _)
  have HCR := Lib.hid (right18_calls lv A1 c1 ms A2 c2 ps W0 (Kd.C_below HR1.out HB0.out) (Kd.C_below HR2.out HB0.out))
  have HX := Lib.hid (show placeE shard lv ms ps = if rightC lv ms ps = false then 1 else if shard < 0 then 83 else if (ps.length : Int) ≤ shard then 83 else 0 from rfl)
  generalize placeE shard lv ms ps = r at *
  have HW0 := Lib.hid hW0; clear hW0
  obtain ⟨k0, k1, k2, _, _, _, _⟩ := three_cells HK0.out
  go_enter Try.func58, Try.ntmps58
  go_upto_region 1 with (fail)
  rw [HW0.out]
  go_wp2_with fail
  refine HCR.out.mono ?_
  rintro e W1 ⟨rfl, hb1⟩
  have HB1 := Lib.hid (below_then HB0.out HB0.out.size hb1)
  have HK1 := Lib.hid (kept_on hb1 HK0.out)
  clear k0 k1 k2 hb1
  obtain ⟨k0, k1, k2, _, _, _, _⟩ := three_cells HK1.out
  cases hrt : rightC lv ms ps
  · have HR := Lib.hid (HX.out.trans (if_pos hrt)); clear hrt
    go_wp2
    go_ret
    exact ⟨ret_int HR.out.symm, HB1.out⟩
  have HX2 := Lib.hid (HX.out.trans (if_neg (by rw [hrt]; decide))); clear hrt
  by_cases d1 : shard < 0
  · have HR := Lib.hid (HX2.out.trans (if_pos d1))
    go_wp2
    go_ret
    exact ⟨ret_int HR.out.symm, HB1.out⟩
  by_cases d2 : (ps.length : Int) ≤ shard
  · have HR := Lib.hid (HX2.out.trans ((if_neg d1).trans (if_pos d2)))
    go_wp2
    go_ret
    exact ⟨ret_int HR.out.symm, HB1.out⟩
  · have HR := Lib.hid (HX2.out.trans ((if_neg d1).trans (if_neg d2)))
    go_wp2
    go_ret
    exact ⟨ret_int HR.out.symm, HB1.out⟩
end Go.Proofs.Ytdbgpakmbjhmgaa.H

/- The document's Cancel. -/
namespace Go.Proofs.Ytdbgpakmbjhmgaa.H
open Go.RowKit Go.Proofs.YtdbgpakmbjhmgaaW.PrintWords Go.Proofs.YtdbgpakmbjhmgaaW.PrintLast Go.Proofs.YtdbgpakmbjhmgaaW.PrintMore
set_option linter.unusedVariables false
set_option linter.unusedSimpArgs false

theorem ret_own {fn : Func} {a : Act} {W : World} {g p q : Nat} {lv k : Int} {s1 s2 x y z : Value} {R : Ending → World → Prop} (hres : fn.results = #[.cell p 26, .tmp q]) (hp : a.tmps.getD p undef = .pointer (some ⟨g, 0, none⟩)) (hq : a.tmps.getD q undef = .int .i64 k) (hd : a.defers = [])
    (hg : W.heap[g]? = some (.cells #[x, y, z] 26 (0, 0))) (hR : R (.returned (.tuple #[.agg #[.int .i64 lv, s1, s2], .int .i64 k])) (((W.setCell ⟨g, 0, none⟩ (.int .i64 lv)).setCell ⟨g, 1, none⟩ s1).setCell ⟨g, 2, none⟩ s2)) :
    bodyPost Try.prog fn R .ret a (((W.setCell ⟨g, 0, none⟩ (.int .i64 lv)).setCell ⟨g, 1, none⟩ s1).setCell ⟨g, 2, none⟩ s2) :=
  ret_C hres hp hq hd (own_set hg lv s1 s2) hR
/-- The row behind a slice that is not empty, with where it can't lie. -/
theorem row_of {α : Type} {d : Kd α} {e : Nat} {W : World} {base n c : Nat} {ok : Nat → Prop} {A : Option Addr} {xs : List α} (h : Kd.R d e W base ok (.slice A n c) xs) (h0 : 0 < n) : ∃ g cells, A = some ⟨g, 0, none⟩ ∧ base ≤ g ∧ W.heap[g]? = some (.cells cells e (0, 0)) := by
  obtain ⟨A', c', he⟩ := Kd.R_slice h
  have hn : n = xs.length := by injection he
  subst hn
  obtain ⟨gg, cc, he2, hgg, hgl, cells, hcells⟩ := Kd.R_form h h0
  injection he2 with e1 _ _
  exact ⟨gg, cells, e1, hgg, hcells⟩
def cancelR (shard : Int) (lv : Int) (ms : List S45) (ps : List S48) : Int × Int × List S45 × List S48 :=
  if ¬ placeE shard lv ms ps = 0 then (placeE shard lv ms ps, lv, ms, ps) else if (rd_T48 ps shard).f2 = 0 then (70, lv, ms, ps) else (0, lv, ms, ps.set shard.toNat ⟨(rd_T48 ps shard).f0, (rd_T48 ps shard).f1, 0⟩)
theorem placeE_zero {shard lv : Int} {ms : List S45} {ps : List S48} (h : placeE shard lv ms ps = 0) : rightC lv ms ps = true ∧ 0 ≤ shard ∧ shard < ps.length := by
  unfold placeE at h
  cases hr : rightC lv ms ps
  · rw [if_pos hr] at h; cases h
  · rw [if_neg (by rw [hr]; decide)] at h
    by_cases h1 : shard < 0
    · rw [if_pos h1] at h; cases h
    · rw [if_neg h1] at h
      by_cases h2 : (ps.length : Int) ≤ shard
      · rw [if_pos h2] at h; cases h
      · exact ⟨rfl, by omega, by omega⟩
set_option maxHeartbeats 4000000 in
set_option maxRecDepth 100000 in
theorem cancelR_calls (shard : Int) (lv : Int) (A1 : Option Addr) (c1 : Nat) (ms : List S45) (A2 : Option Addr) (c2 : Nat) (ps : List S48) (w : World)
    (hr1 : Kd.C k45 w A1 ms.length ms) (hr2 : Kd.C k48 w A2 ps.length ps) (hl1 : ms.length * 16 ≤ 140737488355328) (hl2 : ps.length * 24 ≤ 140737488355328) :
    Calls Try.prog 31 #[.agg #[.int .i64 lv, .slice A1 ms.length c1, .slice A2 ps.length c2], .int .i64 shard] w fun e w' => ∃ v1 v2, e = .returned (.tuple #[.agg #[.int .i64 (cancelR shard lv ms ps).2.1, v1, v2], .int .i64 (cancelR shard lv ms ps).1]) ∧ Kd.R k45 45 w' w.heap.size (fun _ => True) v1 (cancelR shard lv ms ps).2.2.1 ∧ Kd.R k48 48 w' w.heap.size (fun _ => True) v2 (cancelR shard lv ms ps).2.2.2 ∧ Below w.heap.size w w' := by
  have HX := Lib.hid (show cancelR shard lv ms ps = if ¬ placeE shard lv ms ps = 0 then (placeE shard lv ms ps, lv, ms, ps) else if (rd_T48 ps shard).f2 = 0 then (70, lv, ms, ps) else (0, lv, ms, ps.set shard.toNat ⟨(rd_T48 ps shard).f0, (rd_T48 ps shard).f1, 0⟩) from rfl)
  have HPE := Lib.hid (fun h => placeE_zero (shard := shard) (lv := lv) (ms := ms) (ps := ps) h)
  generalize cancelR shard lv ms ps = r at *
  have HR1 := Lib.hid hr1; clear hr1
  have HR2 := Lib.hid hr2; clear hr2
  have HL1 := Lib.hid hl1; clear hl1
  have HL2 := Lib.hid hl2; clear hl2
  generalize hW0 : (w.alloc (.cells #[.int .i64 lv, .slice A1 ms.length c1, .slice A2 ps.length c2] 26)).alloc (.cells #[.int .i64 0, .slice none 0 0, .slice none 0 0] 26) = W0
  have HB0 := Lib.hid (show Below w.heap.size w W0 by rw [← hW0]; exact below_alloc (below_alloc (Below.refl _ _) _) _)
  have HK0 := Lib.hid (show W0.heap[w.heap.size]? = some (.cells #[.int .i64 lv, .slice A1 ms.length c1, .slice A2 ps.length c2] 26 (0, 0)) by rw [← hW0]; exact alloc_on (new_at (by simp) _) _)
  have HZ0 := Lib.hid (show W0.heap[w.heap.size + 1]? = some (.cells #[.int .i64 0, .slice none 0 0, .slice none 0 0] 26 (0, 0)) by rw [← hW0]; exact new_at (by simp) _)
  have HOW := Lib.hid (own_calls lv A1 c1 ms A2 c2 ps W0 (Kd.C_below HR1.out HB0.out) (Kd.C_below HR2.out HB0.out) HL1.out HL2.out)
  have HW0 := Lib.hid hW0; clear hW0
  obtain ⟨k0, k1, k2, _, _, _, kl⟩ := three_cells HK0.out
  go_enter Try.func31, Try.ntmps31
  go_upto_region 1 with (fail)
  rw [HW0.out]
  go_wp2_with fail
  refine HOW.out.mono ?_
  rintro e Wo ⟨u1, u2, rfl, ho1, ho2, hb⟩
  obtain ⟨A3, c3, rfl⟩ := Kd.R_slice ho1
  obtain ⟨A4, c4, rfl⟩ := Kd.R_slice ho2
  generalize hWA : Wo.alloc (.cells #[.int .i64 lv, .slice A3 ms.length c3, .slice A4 ps.length c4] 26) = WA
  have hbA : Below Wo.heap.size Wo WA := by rw [← hWA]; exact below_alloc (Below.refl _ _) _
  have HB1 := Lib.hid (below_then (below_then HB0.out HB0.out.size hb) (Nat.le_trans HB0.out.size hb.size) hbA)
  have HK1 := Lib.hid (kept_on hbA (kept_on hb HK0.out))
  have HZ1 := Lib.hid (kept_on hbA (kept_on hb HZ0.out))
  have HO1 := Lib.hid (Kd.R_lower (Kd.R_below ho1 hbA) HB0.out.size)
  have HP1 := Lib.hid (Kd.R_lower (Kd.R_below ho2 hbA) HB0.out.size)
  have HA1 := Lib.hid (show WA.heap[Wo.heap.size]? = some (.cells #[.int .i64 lv, .slice A3 ms.length c3, .slice A4 ps.length c4] 26 (0, 0)) by rw [← hWA]; exact heap_alloc_new _ _)
  have HWA := Lib.hid hWA; clear hWA
  clear ho1 ho2 k0 k1 k2 kl
  have hga2 : W0.heap.size = w.heap.size + 2 := by rw [← HW0.out]; simp
  have hga3 := hb.size
  have HGA := Lib.hid (show w.heap.size + 2 ≤ Wo.heap.size by omega)
  clear hga2 hga3
  clear hb hbA
  skip
  have HPL := Lib.hid (place_calls shard lv A1 c1 ms A2 c2 ps WA (Kd.C_below HR1.out HB1.out) (Kd.C_below HR2.out HB1.out))
  obtain ⟨k0, k1, k2, _, _, _, kl⟩ := three_cells HK1.out; obtain ⟨z0, z1, z2, z3, z4, z5, z6⟩ := three_cells HZ1.out; obtain ⟨a0, a1, a2, a3, a4, a5, a6⟩ := three_cells HA1.out
  go_upto_region 2 with (fail)
  rw [HWA.out]
  go_wp2_with fail
  refine HPL.out.mono ?_
  rintro e W2 ⟨rfl, hb⟩
  have HB2 := Lib.hid (below_then HB1.out HB1.out.size hb)
  have HK2 := Lib.hid (kept_on hb HK1.out)
  have HZ2 := Lib.hid (kept_on hb HZ1.out)
  have HA2 := Lib.hid (kept_on hb HA1.out)
  have HO2 := Lib.hid (Kd.R_below HO1.out hb)
  have HP2 := Lib.hid (Kd.R_below HP1.out hb)
  clear k0 k1 k2 kl z0 z1 z2 z3 z4 z5 z6 a0 a1 a2 a3 a4 a5 a6
  clear hb
  obtain ⟨k0, k1, k2, _, _, _, kl⟩ := three_cells HK2.out; obtain ⟨z0, z1, z2, z3, z4, z5, z6⟩ := three_cells HZ2.out; obtain ⟨a0, a1, a2, a3, a4, a5, a6⟩ := three_cells HA2.out
  generalize placeE shard lv ms ps = pe at *
  by_cases d0 : pe = 0
  · subst d0
    obtain ⟨hrt, hs0, hs1⟩ := HPE.out rfl
    have HX2 := Lib.hid (HX.out.trans (if_neg (by decide)))
    obtain ⟨ad, rfl, h0, h1, h2⟩ := at_T48 (Kd.C_below HR2.out HB2.out) shard hs0 hs1
    obtain ⟨gp, cells, rfl, hgp, hcells⟩ := row_of HP2.out (by omega)
    obtain ⟨q0, q1, q2, q3, q4, q5⟩ := place_cells HP2.out shard hs0 hs1
    have HT := Lib.hid (R_to HP2.out shard hs0 hs1 0)
    generalize rd_T48 ps shard = p at *
    have HCL := Lib.hid hcells; clear hcells
    by_cases d1 : p.f2 = 0
    · have d1a : (p.f2 == 0) = true := by simpa using d1
      have HR := Lib.hid (HX2.out.trans (if_pos d1))
      go_wp2
      exact ret_own (k := 70) Try.results31 rfl rfl rfl HZ2.out ⟨_, _, by rw [HR.out], by rw [HR.out]; exact own_R HO2.out HZ2.out (Nat.le_refl _) (by decide), by rw [HR.out]; exact own_R HP2.out HZ2.out (Nat.le_refl _) (by decide), below_set (below_set (below_set HB2.out (by omega)) (by omega)) (by omega)⟩
    · have d1a : (p.f2 == 0) = false := by simpa using d1
      have HR := Lib.hid (HX2.out.trans (if_neg d1))
      have hne1 : w.heap.size + 1 ≠ gp := fun e => by have h := HZ2.out; rw [e, HCL.out] at h; injection h with h; injection h with _ h; exact absurd h (by decide)
      have hne2 : Wo.heap.size ≠ gp := fun e => by have h := HA2.out; rw [e, HCL.out] at h; injection h with h; injection h with _ h; exact absurd h (by decide)
      generalize hW3 : W2.setCell ⟨gp, shard.toNat * 3 + 2, none⟩ (.int .i64 0) = W3
      have HZ3 := Lib.hid (show W3.heap[w.heap.size + 1]? = some (.cells #[.int .i64 0, .slice none 0 0, .slice none 0 0] 26 (0, 0)) by rw [← hW3]; exact blk_other HZ2.out _ _ hne1)
      have HA3 := Lib.hid (show W3.heap[Wo.heap.size]? = some (.cells #[.int .i64 lv, .slice A3 ms.length c3, .slice (some ⟨gp, 0, none⟩) ps.length c4] 26 (0, 0)) by rw [← hW3]; exact blk_other HA2.out _ _ hne2)
      have HP3 := Lib.hid (show Kd.R k48 48 W3 _ _ _ _ by rw [← hW3]; exact HT.out.1)
      have HO3 := Lib.hid (show Kd.R k45 45 W3 w.heap.size (fun _ => True) (.slice A3 ms.length c3) ms by rw [← hW3]; exact Kd.R_set HO2.out HCL.out (by decide) _ _)
      have HB3 := Lib.hid (show Below w.heap.size w W3 by rw [← hW3]; exact below_set HB2.out hgp)
      have HW3 := Lib.hid hW3; clear hW3
      go_upto_region 8 with (fail)
      rw [HW3.out]
      clear k0 k1 k2 kl z0 z1 z2 z3 z4 z5 z6 a0 a1 a2 a3 a4 a5 a6 q0 q1 q2 q3 q4 q5 h0 h1 h2
      obtain ⟨z0, z1, z2, z3, z4, z5, z6⟩ := three_cells HZ3.out
      obtain ⟨a0, a1, a2, a3, a4, a5, a6⟩ := three_cells HA3.out
      go_wp2
      exact ret_own (k := 0) Try.results31 rfl rfl rfl HZ3.out ⟨_, _, by rw [HR.out], by rw [HR.out]; exact own_R HO3.out HZ3.out (Nat.le_refl _) (by decide), by rw [HR.out]; exact own_R HP3.out HZ3.out (Nat.le_refl _) (by decide), below_set (below_set (below_set HB3.out (by omega)) (by omega)) (by omega)⟩
  · have HR := Lib.hid (HX.out.trans (if_pos d0))
    have d0a : (pe != 0) = true := by simpa using d0
    go_wp2
    exact ret_own (k := pe) Try.results31 rfl rfl rfl HZ2.out ⟨_, _, by rw [HR.out], by rw [HR.out]; exact own_R HO2.out HZ2.out (Nat.le_refl _) (by decide), by rw [HR.out]; exact own_R HP2.out HZ2.out (Nat.le_refl _) (by decide), below_set (below_set (below_set HB2.out (by omega)) (by omega)) (by omega)⟩
end Go.Proofs.Ytdbgpakmbjhmgaa.H

/- The document's Plan. -/
namespace Go.Proofs.Ytdbgpakmbjhmgaa.H
open Go.RowKit Go.Proofs.YtdbgpakmbjhmgaaW.PrintWords Go.Proofs.YtdbgpakmbjhmgaaW.PrintLast Go.Proofs.YtdbgpakmbjhmgaaW.PrintMore
set_option linter.unusedVariables false
set_option linter.unusedSimpArgs false

def planR (shard tt : Int) (lv : Int) (ms : List S45) (ps : List S48) : Int × Int × List S45 × List S48 :=
  if ¬ placeE shard lv ms ps = 0 then (placeE shard lv ms ps, lv, ms, ps) else if placeAt ms tt < 0 then (70, lv, ms, ps) else if ¬ (rd_T48 ps shard).f2 = 0 then (92, lv, ms, ps) else if (rd_T48 ps shard).f0 = tt then (1, lv, ms, ps) else if (rd_T48 ps shard).f1 = 9007199254740992 then (50, lv, ms, ps) else (0, lv, ms, ps.set shard.toNat ⟨(rd_T48 ps shard).f0, (rd_T48 ps shard).f1, tt⟩)
set_option maxHeartbeats 4000000 in
set_option maxRecDepth 100000 in
theorem planR_calls (shard tt : Int) (lv : Int) (A1 : Option Addr) (c1 : Nat) (ms : List S45) (A2 : Option Addr) (c2 : Nat) (ps : List S48) (w : World)
    (hr1 : Kd.C k45 w A1 ms.length ms) (hr2 : Kd.C k48 w A2 ps.length ps) (hl1 : ms.length * 16 ≤ 140737488355328) (hl2 : ps.length * 24 ≤ 140737488355328) :
    Calls Try.prog 27 #[.agg #[.int .i64 lv, .slice A1 ms.length c1, .slice A2 ps.length c2], .int .i64 shard, .int .i64 tt] w fun e w' => ∃ v1 v2, e = .returned (.tuple #[.agg #[.int .i64 (planR shard tt lv ms ps).2.1, v1, v2], .int .i64 (planR shard tt lv ms ps).1]) ∧ Kd.R k45 45 w' w.heap.size (fun _ => True) v1 (planR shard tt lv ms ps).2.2.1 ∧ Kd.R k48 48 w' w.heap.size (fun _ => True) v2 (planR shard tt lv ms ps).2.2.2 ∧ Below w.heap.size w w' := by
  have HX := Lib.hid (show planR shard tt lv ms ps = if ¬ placeE shard lv ms ps = 0 then (placeE shard lv ms ps, lv, ms, ps) else if placeAt ms tt < 0 then (70, lv, ms, ps) else if ¬ (rd_T48 ps shard).f2 = 0 then (92, lv, ms, ps) else if (rd_T48 ps shard).f0 = tt then (1, lv, ms, ps) else if (rd_T48 ps shard).f1 = 9007199254740992 then (50, lv, ms, ps) else (0, lv, ms, ps.set shard.toNat ⟨(rd_T48 ps shard).f0, (rd_T48 ps shard).f1, tt⟩) from rfl)
  have HPE := Lib.hid (fun h => placeE_zero (shard := shard) (lv := lv) (ms := ms) (ps := ps) h)
  generalize planR shard tt lv ms ps = r at *
  have HR1 := Lib.hid hr1; clear hr1
  have HR2 := Lib.hid hr2; clear hr2
  have HL1 := Lib.hid hl1; clear hl1
  have HL2 := Lib.hid hl2; clear hl2
  generalize hW0 : (w.alloc (.cells #[.int .i64 lv, .slice A1 ms.length c1, .slice A2 ps.length c2] 26)).alloc (.cells #[.int .i64 0, .slice none 0 0, .slice none 0 0] 26) = W0
  have HB0 := Lib.hid (show Below w.heap.size w W0 by rw [← hW0]; exact below_alloc (below_alloc (Below.refl _ _) _) _)
  have HK0 := Lib.hid (show W0.heap[w.heap.size]? = some (.cells #[.int .i64 lv, .slice A1 ms.length c1, .slice A2 ps.length c2] 26 (0, 0)) by rw [← hW0]; exact alloc_on (new_at (by simp) _) _)
  have HZ0 := Lib.hid (show W0.heap[w.heap.size + 1]? = some (.cells #[.int .i64 0, .slice none 0 0, .slice none 0 0] 26 (0, 0)) by rw [← hW0]; exact new_at (by simp) _)
  have HOW := Lib.hid (own_calls lv A1 c1 ms A2 c2 ps W0 (Kd.C_below HR1.out HB0.out) (Kd.C_below HR2.out HB0.out) HL1.out HL2.out)
  have HW0 := Lib.hid hW0; clear hW0
  obtain ⟨k0, k1, k2, _, _, _, kl⟩ := three_cells HK0.out
  go_enter Try.func27, Try.ntmps27
  go_upto_region 1 with (fail)
  rw [HW0.out]
  go_wp2_with fail
  refine HOW.out.mono ?_
  rintro e Wo ⟨u1, u2, rfl, ho1, ho2, hb⟩
  obtain ⟨A3, c3, rfl⟩ := Kd.R_slice ho1
  obtain ⟨A4, c4, rfl⟩ := Kd.R_slice ho2
  generalize hWA : Wo.alloc (.cells #[.int .i64 lv, .slice A3 ms.length c3, .slice A4 ps.length c4] 26) = WA
  have hbA : Below Wo.heap.size Wo WA := by rw [← hWA]; exact below_alloc (Below.refl _ _) _
  have HB1 := Lib.hid (below_then (below_then HB0.out HB0.out.size hb) (Nat.le_trans HB0.out.size hb.size) hbA)
  have HK1 := Lib.hid (kept_on hbA (kept_on hb HK0.out))
  have HZ1 := Lib.hid (kept_on hbA (kept_on hb HZ0.out))
  have HO1 := Lib.hid (Kd.R_lower (Kd.R_below ho1 hbA) HB0.out.size)
  have HP1 := Lib.hid (Kd.R_lower (Kd.R_below ho2 hbA) HB0.out.size)
  have HA1 := Lib.hid (show WA.heap[Wo.heap.size]? = some (.cells #[.int .i64 lv, .slice A3 ms.length c3, .slice A4 ps.length c4] 26 (0, 0)) by rw [← hWA]; exact heap_alloc_new _ _)
  have HWA := Lib.hid hWA; clear hWA
  clear ho1 ho2 k0 k1 k2 kl
  have hga2 : W0.heap.size = w.heap.size + 2 := by rw [← HW0.out]; simp
  have hga3 := hb.size
  have HGA := Lib.hid (show w.heap.size + 2 ≤ Wo.heap.size by omega)
  clear hga2 hga3
  clear hb hbA
  skip
  have HPL := Lib.hid (place_calls shard lv A1 c1 ms A2 c2 ps WA (Kd.C_below HR1.out HB1.out) (Kd.C_below HR2.out HB1.out))
  obtain ⟨k0, k1, k2, _, _, _, kl⟩ := three_cells HK1.out; obtain ⟨z0, z1, z2, z3, z4, z5, z6⟩ := three_cells HZ1.out; obtain ⟨a0, a1, a2, a3, a4, a5, a6⟩ := three_cells HA1.out
  go_upto_region 2 with (fail)
  rw [HWA.out]
  go_wp2_with fail
  refine HPL.out.mono ?_
  rintro e W2 ⟨rfl, hb⟩
  have HB2 := Lib.hid (below_then HB1.out HB1.out.size hb)
  have HK2 := Lib.hid (kept_on hb HK1.out)
  have HZ2 := Lib.hid (kept_on hb HZ1.out)
  have HA2 := Lib.hid (kept_on hb HA1.out)
  have HO2 := Lib.hid (Kd.R_below HO1.out hb)
  have HP2 := Lib.hid (Kd.R_below HP1.out hb)
  clear k0 k1 k2 kl z0 z1 z2 z3 z4 z5 z6 a0 a1 a2 a3 a4 a5 a6
  clear hb
  obtain ⟨k0, k1, k2, _, _, _, kl⟩ := three_cells HK2.out; obtain ⟨z0, z1, z2, z3, z4, z5, z6⟩ := three_cells HZ2.out; obtain ⟨a0, a1, a2, a3, a4, a5, a6⟩ := three_cells HA2.out
  generalize placeE shard lv ms ps = pe at *
  by_cases d0 : pe = 0
  · subst d0
    obtain ⟨hrt, hs0, hs1⟩ := HPE.out rfl
    have HX2 := Lib.hid (HX.out.trans (if_neg (by decide)))
    have HMB := Lib.hid (member_calls lv A1 c1 ms (.slice A2 ps.length c2) tt W2 (Kd.C_below HR1.out HB2.out))
    go_wp2_with fail
    refine HMB.out.mono ?_
    rintro e W3 ⟨rfl, hb⟩
    have HB3 := Lib.hid (below_then HB2.out HB2.out.size hb)
    have HK3 := Lib.hid (kept_on hb HK2.out)
    have HZ3 := Lib.hid (kept_on hb HZ2.out)
    have HA3 := Lib.hid (kept_on hb HA2.out)
    have HO3 := Lib.hid (Kd.R_below HO2.out hb)
    have HP3 := Lib.hid (Kd.R_below HP2.out hb)
    clear k0 k1 k2 kl z0 z1 z2 z3 z4 z5 z6 a0 a1 a2 a3 a4 a5 a6
    clear hb
    obtain ⟨k0, k1, k2, _, _, _, kl⟩ := three_cells HK3.out; obtain ⟨z0, z1, z2, z3, z4, z5, z6⟩ := three_cells HZ3.out; obtain ⟨a0, a1, a2, a3, a4, a5, a6⟩ := three_cells HA3.out
    generalize placeAt ms tt = mi at *
    obtain ⟨ad, rfl, h0, h1, h2⟩ := at_T48 (Kd.C_below HR2.out HB3.out) shard hs0 hs1
    obtain ⟨gp, cells, rfl, hgp, hcells⟩ := row_of HP3.out (by omega)
    obtain ⟨q0, q1, q2, q3, q4, q5⟩ := place_cells HP3.out shard hs0 hs1
    have HT := Lib.hid (R_to HP3.out shard hs0 hs1 tt)
    generalize rd_T48 ps shard = p at *
    have HCL := Lib.hid hcells; clear hcells
    by_cases d1 : mi < 0
    · have HR := Lib.hid (HX2.out.trans (if_pos d1))
      go_wp2
      exact ret_own (k := 70) Try.results27 rfl rfl rfl HZ3.out ⟨_, _, by rw [HR.out], by rw [HR.out]; exact own_R HO3.out HZ3.out (Nat.le_refl _) (by decide), by rw [HR.out]; exact own_R HP3.out HZ3.out (Nat.le_refl _) (by decide), below_set (below_set (below_set HB3.out (by omega)) (by omega)) (by omega)⟩
    by_cases d2 : p.f2 = 0
    rotate_left
    · have d2a : (p.f2 != 0) = true := by simpa using d2
      have HR := Lib.hid (HX2.out.trans ((if_neg d1).trans (if_pos d2)))
      go_wp2
      exact ret_own (k := 92) Try.results27 rfl rfl rfl HZ3.out ⟨_, _, by rw [HR.out], by rw [HR.out]; exact own_R HO3.out HZ3.out (Nat.le_refl _) (by decide), by rw [HR.out]; exact own_R HP3.out HZ3.out (Nat.le_refl _) (by decide), below_set (below_set (below_set HB3.out (by omega)) (by omega)) (by omega)⟩
    have d2a : (p.f2 != 0) = false := by simpa using d2
    by_cases d3 : p.f0 = tt
    · have d3a : (p.f0 == tt) = true := by simpa using d3
      have HR := Lib.hid (HX2.out.trans ((if_neg d1).trans ((if_neg (Classical.not_not.2 d2)).trans (if_pos d3))))
      go_wp2
      exact ret_own (k := 1) Try.results27 rfl rfl rfl HZ3.out ⟨_, _, by rw [HR.out], by rw [HR.out]; exact own_R HO3.out HZ3.out (Nat.le_refl _) (by decide), by rw [HR.out]; exact own_R HP3.out HZ3.out (Nat.le_refl _) (by decide), below_set (below_set (below_set HB3.out (by omega)) (by omega)) (by omega)⟩
    have d3a : (p.f0 == tt) = false := by simpa using d3
    by_cases d4 : p.f1 = 9007199254740992
    · have d4a : (p.f1 == 9007199254740992) = true := by simpa using d4
      have HR := Lib.hid (HX2.out.trans ((if_neg d1).trans ((if_neg (Classical.not_not.2 d2)).trans ((if_neg d3).trans (if_pos d4)))))
      go_wp2
      exact ret_own (k := 50) Try.results27 rfl rfl rfl HZ3.out ⟨_, _, by rw [HR.out], by rw [HR.out]; exact own_R HO3.out HZ3.out (Nat.le_refl _) (by decide), by rw [HR.out]; exact own_R HP3.out HZ3.out (Nat.le_refl _) (by decide), below_set (below_set (below_set HB3.out (by omega)) (by omega)) (by omega)⟩
    · have d4a : (p.f1 == 9007199254740992) = false := by simpa using d4
      have HR := Lib.hid (HX2.out.trans ((if_neg d1).trans ((if_neg (Classical.not_not.2 d2)).trans ((if_neg d3).trans (if_neg d4)))))
      have hne1 : w.heap.size + 1 ≠ gp := fun e => by have h := HZ3.out; rw [e, HCL.out] at h; injection h with h; injection h with _ h; exact absurd h (by decide)
      have hne2 : Wo.heap.size ≠ gp := fun e => by have h := HA3.out; rw [e, HCL.out] at h; injection h with h; injection h with _ h; exact absurd h (by decide)
      generalize hW4 : W3.setCell ⟨gp, shard.toNat * 3 + 2, none⟩ (.int .i64 tt) = W4
      have HZ4 := Lib.hid (show W4.heap[w.heap.size + 1]? = some (.cells #[.int .i64 0, .slice none 0 0, .slice none 0 0] 26 (0, 0)) by rw [← hW4]; exact blk_other HZ3.out _ _ hne1)
      have HA4 := Lib.hid (show W4.heap[Wo.heap.size]? = some (.cells #[.int .i64 lv, .slice A3 ms.length c3, .slice (some ⟨gp, 0, none⟩) ps.length c4] 26 (0, 0)) by rw [← hW4]; exact blk_other HA3.out _ _ hne2)
      have HP4 := Lib.hid (show Kd.R k48 48 W4 _ _ _ _ by rw [← hW4]; exact HT.out.1)
      have HO4 := Lib.hid (show Kd.R k45 45 W4 w.heap.size (fun _ => True) (.slice A3 ms.length c3) ms by rw [← hW4]; exact Kd.R_set HO3.out HCL.out (by decide) _ _)
      have HB4 := Lib.hid (show Below w.heap.size w W4 by rw [← hW4]; exact below_set HB3.out hgp)
      have HW4 := Lib.hid hW4; clear hW4
      go_upto_region 14 with (fail)
      rw [HW4.out]
      clear k0 k1 k2 kl z0 z1 z2 z3 z4 z5 z6 a0 a1 a2 a3 a4 a5 a6 q0 q1 q2 q3 q4 q5 h0 h1 h2
      obtain ⟨z0, z1, z2, z3, z4, z5, z6⟩ := three_cells HZ4.out
      obtain ⟨a0, a1, a2, a3, a4, a5, a6⟩ := three_cells HA4.out
      go_wp2
      exact ret_own (k := 0) Try.results27 rfl rfl rfl HZ4.out ⟨_, _, by rw [HR.out], by rw [HR.out]; exact own_R HO4.out HZ4.out (Nat.le_refl _) (by decide), by rw [HR.out]; exact own_R HP4.out HZ4.out (Nat.le_refl _) (by decide), below_set (below_set (below_set HB4.out (by omega)) (by omega)) (by omega)⟩
  · have HR := Lib.hid (HX.out.trans (if_pos d0))
    have d0a : (pe != 0) = true := by simpa using d0
    go_wp2
    exact ret_own (k := pe) Try.results27 rfl rfl rfl HZ2.out ⟨_, _, by rw [HR.out], by rw [HR.out]; exact own_R HO2.out HZ2.out (Nat.le_refl _) (by decide), by rw [HR.out]; exact own_R HP2.out HZ2.out (Nat.le_refl _) (by decide), below_set (below_set (below_set HB2.out (by omega)) (by omega)) (by omega)⟩
end Go.Proofs.Ytdbgpakmbjhmgaa.H

/- The document's Report. -/
namespace Go.Proofs.Ytdbgpakmbjhmgaa.H
open Go.RowKit Go.Proofs.YtdbgpakmbjhmgaaW.PrintWords Go.Proofs.YtdbgpakmbjhmgaaW.PrintLast Go.Proofs.YtdbgpakmbjhmgaaW.PrintMore
set_option linter.unusedVariables false
set_option linter.unusedSimpArgs false

theorem member_cells' {W : World} {base g n cap : Nat} {ok : Nat → Prop} {xs : List S45} (h : Kd.R k45 45 W base ok (.slice (some ⟨g, 0, none⟩) n cap) xs) (i : Int) (h0 : 0 ≤ i) (h1 : i < n) :
    W.cell? ⟨g, i.toNat * 2, none⟩ = some (.int .i64 (rd_T45 xs i).f0) ∧ W.cell? ⟨g, i.toNat * 2 + 1, none⟩ = some (.int .i64 (rd_T45 xs i).f1) ∧ W.frozen? ⟨g, i.toNat * 2, none⟩ = false ∧ W.frozen? ⟨g, i.toNat * 2 + 1, none⟩ = false := by
  obtain ⟨c, hcl, hM, hcc, hfr⟩ := Kd.R_elem h z45 i h0 h1
  obtain rfl := k45_openM hM
  exact ⟨hcc 0 _ rfl, hcc 1 _ rfl, hfr 0, hfr 1⟩
def reportR (name b : Int) (lv : Int) (ms : List S45) (ps : List S48) : Int × Int × List S45 × List S48 :=
  if rightC lv ms ps = false then (1, lv, ms, ps) else if (¬ b = 1 ∧ ¬ b = 2) then (1, lv, ms, ps) else if placeAt ms name < 0 then (70, lv, ms, ps) else if binR lv b = false then (22, lv, ms, ps) else (0, lv, ms.set (placeAt ms name).toNat ⟨(rd_T45 ms (placeAt ms name)).f0, b⟩, ps)
theorem idx_lt' {α : Type} (p : α → Bool) : ∀ (l : List α) (n : Nat), idx p l n < (n + l.length : Nat)
  | [], n => by simp only [idx]; omega
  | x :: xs, n => by
    rw [idx]
    have h := idx_lt' p xs (n + 1)
    split <;> simp only [List.length_cons] at * <;> omega
theorem placeAt_lt (ms : List S45) (name : Int) : placeAt ms name < ms.length := by
  have := idx_lt' (named name) ms 0
  rwa [Nat.zero_add] at this
set_option maxHeartbeats 4000000 in
set_option maxRecDepth 100000 in
theorem reportR_calls (name b : Int) (lv : Int) (A1 : Option Addr) (c1 : Nat) (ms : List S45) (A2 : Option Addr) (c2 : Nat) (ps : List S48) (w : World)
    (hr1 : Kd.C k45 w A1 ms.length ms) (hr2 : Kd.C k48 w A2 ps.length ps) (hl1 : ms.length * 16 ≤ 140737488355328) (hl2 : ps.length * 24 ≤ 140737488355328) :
    Calls Try.prog 25 #[.agg #[.int .i64 lv, .slice A1 ms.length c1, .slice A2 ps.length c2], .int .i64 name, .int .i64 b] w fun e w' => ∃ v1 v2, e = .returned (.tuple #[.agg #[.int .i64 (reportR name b lv ms ps).2.1, v1, v2], .int .i64 (reportR name b lv ms ps).1]) ∧ Kd.R k45 45 w' w.heap.size (fun _ => True) v1 (reportR name b lv ms ps).2.2.1 ∧ Kd.R k48 48 w' w.heap.size (fun _ => True) v2 (reportR name b lv ms ps).2.2.2 ∧ Below w.heap.size w w' := by
  have HX := Lib.hid (show reportR name b lv ms ps = if rightC lv ms ps = false then (1, lv, ms, ps) else if (¬ b = 1 ∧ ¬ b = 2) then (1, lv, ms, ps) else if placeAt ms name < 0 then (70, lv, ms, ps) else if binR lv b = false then (22, lv, ms, ps) else (0, lv, ms.set (placeAt ms name).toNat ⟨(rd_T45 ms (placeAt ms name)).f0, b⟩, ps) from rfl)
  have HLT := Lib.hid (placeAt_lt ms name)
  generalize reportR name b lv ms ps = r at *
  have HR1 := Lib.hid hr1; clear hr1
  have HR2 := Lib.hid hr2; clear hr2
  have HL1 := Lib.hid hl1; clear hl1
  have HL2 := Lib.hid hl2; clear hl2
  generalize hW0 : (w.alloc (.cells #[.int .i64 lv, .slice A1 ms.length c1, .slice A2 ps.length c2] 26)).alloc (.cells #[.int .i64 0, .slice none 0 0, .slice none 0 0] 26) = W0
  have HB0 := Lib.hid (show Below w.heap.size w W0 by rw [← hW0]; exact below_alloc (below_alloc (Below.refl _ _) _) _)
  have HK0 := Lib.hid (show W0.heap[w.heap.size]? = some (.cells #[.int .i64 lv, .slice A1 ms.length c1, .slice A2 ps.length c2] 26 (0, 0)) by rw [← hW0]; exact alloc_on (new_at (by simp) _) _)
  have HZ0 := Lib.hid (show W0.heap[w.heap.size + 1]? = some (.cells #[.int .i64 0, .slice none 0 0, .slice none 0 0] 26 (0, 0)) by rw [← hW0]; exact new_at (by simp) _)
  have HOW := Lib.hid (own_calls lv A1 c1 ms A2 c2 ps W0 (Kd.C_below HR1.out HB0.out) (Kd.C_below HR2.out HB0.out) HL1.out HL2.out)
  have HW0 := Lib.hid hW0; clear hW0
  obtain ⟨k0, k1, k2, _, _, _, kl⟩ := three_cells HK0.out
  go_enter Try.func25, Try.ntmps25
  go_upto_region 1 with (fail)
  rw [HW0.out]
  go_wp2_with fail
  refine HOW.out.mono ?_
  rintro e Wo ⟨u1, u2, rfl, ho1, ho2, hb⟩
  obtain ⟨A3, c3, rfl⟩ := Kd.R_slice ho1
  obtain ⟨A4, c4, rfl⟩ := Kd.R_slice ho2
  generalize hWA : Wo.alloc (.cells #[.int .i64 lv, .slice A3 ms.length c3, .slice A4 ps.length c4] 26) = WA
  have hbA : Below Wo.heap.size Wo WA := by rw [← hWA]; exact below_alloc (Below.refl _ _) _
  have HB1 := Lib.hid (below_then (below_then HB0.out HB0.out.size hb) (Nat.le_trans HB0.out.size hb.size) hbA)
  have HK1 := Lib.hid (kept_on hbA (kept_on hb HK0.out))
  have HZ1 := Lib.hid (kept_on hbA (kept_on hb HZ0.out))
  have HO1 := Lib.hid (Kd.R_lower (Kd.R_below ho1 hbA) HB0.out.size)
  have HP1 := Lib.hid (Kd.R_lower (Kd.R_below ho2 hbA) HB0.out.size)
  have HA1 := Lib.hid (show WA.heap[Wo.heap.size]? = some (.cells #[.int .i64 lv, .slice A3 ms.length c3, .slice A4 ps.length c4] 26 (0, 0)) by rw [← hWA]; exact heap_alloc_new _ _)
  have HWA := Lib.hid hWA; clear hWA
  clear ho1 ho2 k0 k1 k2 kl
  have hga2 : W0.heap.size = w.heap.size + 2 := by rw [← HW0.out]; simp
  have hga3 := hb.size
  have HGA := Lib.hid (show w.heap.size + 2 ≤ Wo.heap.size by omega)
  clear hga2 hga3
  clear hb hbA
  skip
  have HRT := Lib.hid (right18_calls lv A1 c1 ms A2 c2 ps WA (Kd.C_below HR1.out HB1.out) (Kd.C_below HR2.out HB1.out))
  obtain ⟨k0, k1, k2, _, _, _, kl⟩ := three_cells HK1.out; obtain ⟨z0, z1, z2, z3, z4, z5, z6⟩ := three_cells HZ1.out; obtain ⟨a0, a1, a2, a3, a4, a5, a6⟩ := three_cells HA1.out
  go_upto_region 2 with (fail)
  rw [HWA.out]
  go_wp2_with fail
  refine HRT.out.mono ?_
  rintro e W2 ⟨rfl, hb⟩
  have HB2 := Lib.hid (below_then HB1.out HB1.out.size hb)
  have HK2 := Lib.hid (kept_on hb HK1.out)
  have HZ2 := Lib.hid (kept_on hb HZ1.out)
  have HA2 := Lib.hid (kept_on hb HA1.out)
  have HO2 := Lib.hid (Kd.R_below HO1.out hb)
  have HP2 := Lib.hid (Kd.R_below HP1.out hb)
  clear k0 k1 k2 kl z0 z1 z2 z3 z4 z5 z6 a0 a1 a2 a3 a4 a5 a6
  clear hb
  obtain ⟨k0, k1, k2, _, _, _, kl⟩ := three_cells HK2.out; obtain ⟨z0, z1, z2, z3, z4, z5, z6⟩ := three_cells HZ2.out; obtain ⟨a0, a1, a2, a3, a4, a5, a6⟩ := three_cells HA2.out
  have HMB := Lib.hid (member_calls lv A1 c1 ms (.slice A2 ps.length c2) name W2 (Kd.C_below HR1.out HB2.out))
  go_wp2_with fail
  refine HMB.out.mono ?_
  rintro e W3 ⟨rfl, hb⟩
  have HB3 := Lib.hid (below_then HB2.out HB2.out.size hb)
  have HK3 := Lib.hid (kept_on hb HK2.out)
  have HZ3 := Lib.hid (kept_on hb HZ2.out)
  have HA3 := Lib.hid (kept_on hb HA2.out)
  have HO3 := Lib.hid (Kd.R_below HO2.out hb)
  have HP3 := Lib.hid (Kd.R_below HP2.out hb)
  clear k0 k1 k2 kl z0 z1 z2 z3 z4 z5 z6 a0 a1 a2 a3 a4 a5 a6
  clear hb
  obtain ⟨k0, k1, k2, _, _, _, kl⟩ := three_cells HK3.out; obtain ⟨z0, z1, z2, z3, z4, z5, z6⟩ := three_cells HZ3.out; obtain ⟨a0, a1, a2, a3, a4, a5, a6⟩ := three_cells HA3.out
  generalize placeAt ms name = mi at *
  cases d0 : rightC lv ms ps
  · have HR := Lib.hid (HX.out.trans (if_pos d0)); clear d0
    go_wp2
    exact ret_own (k := 1) Try.results25 rfl rfl rfl HZ3.out ⟨_, _, by rw [HR.out], by rw [HR.out]; exact own_R HO3.out HZ3.out (Nat.le_refl _) (by decide), by rw [HR.out]; exact own_R HP3.out HZ3.out (Nat.le_refl _) (by decide), below_set (below_set (below_set HB3.out (by omega)) (by omega)) (by omega)⟩
  have HX2 := Lib.hid (HX.out.trans (if_neg (by rw [d0]; decide))); clear d0
  by_cases d1 : (¬ b = 1 ∧ ¬ b = 2)
  · have d1a : (b != 1) = true := by simpa using d1.1
    have d1b : (b != 2) = true := by simpa using d1.2
    have HR := Lib.hid (HX2.out.trans (if_pos d1)); clear d1
    go_wp2
    exact ret_own (k := 1) Try.results25 rfl rfl rfl HZ3.out ⟨_, _, by rw [HR.out], by rw [HR.out]; exact own_R HO3.out HZ3.out (Nat.le_refl _) (by decide), by rw [HR.out]; exact own_R HP3.out HZ3.out (Nat.le_refl _) (by decide), below_set (below_set (below_set HB3.out (by omega)) (by omega)) (by omega)⟩
  have HX3 := Lib.hid (HX2.out.trans (if_neg d1))
  have hbb : ((b != 1) = false) ∨ ((b != 1) = true ∧ (b != 2) = false) := by
      by_cases h : b = 1
      · exact .inl (by simpa using h)
      · exact .inr ⟨by simpa using h, by simpa using Classical.not_not.1 (fun h2 => d1 ⟨h, h2⟩)⟩
  clear d1 HX HX2
  go_upto_region 4 with (fail)
  go_cut [18, 19, 20, 21, 22, 23, 24, 25, 26, 27, 28] (fun v18 v19 v20 v21 v22 v23 v24 v25 v26 v27 v28 W => v18 = .bool false ∧ W = W3)
  case first =>
    rcases hbb with h | ⟨h, h'⟩
    · go_wp2
      go_meet
      case rel => exact ⟨rfl, rfl⟩
    · go_wp2
      go_meet
      case rel => exact ⟨rfl, rfl⟩
  case rest =>
    obtain ⟨rfl, hwc⟩ := hcut
    obtain rfl : W3 = wc := hwc.symm
    clear hbb
    by_cases d2 : mi < 0
    · have HR := Lib.hid (HX3.out.trans (if_pos d2))
      go_wp2
      exact ret_own (k := 70) Try.results25 rfl rfl rfl HZ3.out ⟨_, _, by rw [HR.out], by rw [HR.out]; exact own_R HO3.out HZ3.out (Nat.le_refl _) (by decide), by rw [HR.out]; exact own_R HP3.out HZ3.out (Nat.le_refl _) (by decide), below_set (below_set (below_set HB3.out (by omega)) (by omega)) (by omega)⟩
    have HX4 := Lib.hid (HX3.out.trans (if_neg d2))
    cases d3 : binR lv b
    · have HR := Lib.hid (HX4.out.trans (if_pos d3))
      go_wp2_with (go_at_call 39; refine (binR_calls _ _ _).mono ?_; rintro e W' ⟨rfl, rfl⟩)
      exact ret_own (k := 22) Try.results25 rfl rfl rfl HZ3.out ⟨_, _, by rw [HR.out], by rw [HR.out]; exact own_R HO3.out HZ3.out (Nat.le_refl _) (by decide), by rw [HR.out]; exact own_R HP3.out HZ3.out (Nat.le_refl _) (by decide), below_set (below_set (below_set HB3.out (by omega)) (by omega)) (by omega)⟩
    · have HR := Lib.hid (HX4.out.trans (if_neg (by rw [d3]; decide)))
      have hm0 : 0 ≤ mi := by omega
      have hm1 : mi < ms.length := HLT.out
      obtain ⟨gp, cells, rfl, hgp, hcells⟩ := row_of HO3.out (by omega)
      obtain ⟨q0, q1, q2, q3⟩ := member_cells' HO3.out mi hm0 hm1
      have HT := Lib.hid (R_bin HO3.out mi hm0 hm1 b)
      generalize rd_T45 ms mi = p at *
      have HCL := Lib.hid hcells; clear hcells
      have hne1 : w.heap.size + 1 ≠ gp := fun e => by have h := HZ3.out; rw [e, HCL.out] at h; injection h with h; injection h with _ h; exact absurd h (by decide)
      have hne2 : Wo.heap.size ≠ gp := fun e => by have h := HA3.out; rw [e, HCL.out] at h; injection h with h; injection h with _ h; exact absurd h (by decide)
      generalize hW4 : W3.setCell ⟨gp, mi.toNat * 2 + 1, none⟩ (.int .i64 b) = W4
      have HZ4 := Lib.hid (show W4.heap[w.heap.size + 1]? = some (.cells #[.int .i64 0, .slice none 0 0, .slice none 0 0] 26 (0, 0)) by rw [← hW4]; exact blk_other HZ3.out _ _ hne1)
      have HA4 := Lib.hid (show W4.heap[Wo.heap.size]? = some (.cells #[.int .i64 lv, .slice (some ⟨gp, 0, none⟩) ms.length c3, .slice A4 ps.length c4] 26 (0, 0)) by rw [← hW4]; exact blk_other HA3.out _ _ hne2)
      have HP4 := Lib.hid (show Kd.R k48 48 W4 w.heap.size (fun _ => True) (.slice A4 ps.length c4) ps by rw [← hW4]; exact Kd.R_set HP3.out HCL.out (by decide) _ _)
      have HO4 := Lib.hid (show Kd.R k45 45 W4 _ _ _ _ by rw [← hW4]; exact HT.out)
      have HB4 := Lib.hid (show Below w.heap.size w W4 by rw [← hW4]; exact below_set HB3.out hgp)
      have HW4 := Lib.hid hW4; clear hW4
      go_upto_region 11 with (go_at_call 39; refine (binR_calls _ _ _).mono ?_; rintro e W' ⟨rfl, rfl⟩)
      rw [HW4.out]
      clear k0 k1 k2 kl z0 z1 z2 z3 z4 z5 z6 a0 a1 a2 a3 a4 a5 a6 q0 q1 q2 q3
      obtain ⟨z0, z1, z2, z3, z4, z5, z6⟩ := three_cells HZ4.out
      obtain ⟨a0, a1, a2, a3, a4, a5, a6⟩ := three_cells HA4.out
      go_wp2
      exact ret_own (k := 0) Try.results25 rfl rfl rfl HZ4.out ⟨_, _, by rw [HR.out], by rw [HR.out]; exact own_R HO4.out HZ4.out (Nat.le_refl _) (by decide), by rw [HR.out]; exact own_R HP4.out HZ4.out (Nat.le_refl _) (by decide), below_set (below_set (below_set HB4.out (by omega)) (by omega)) (by omega)⟩
end Go.Proofs.Ytdbgpakmbjhmgaa.H

/- The document's Finalise. -/
namespace Go.Proofs.Ytdbgpakmbjhmgaa.H
open Go.RowKit Go.Proofs.YtdbgpakmbjhmgaaW.PrintWords Go.Proofs.YtdbgpakmbjhmgaaW.PrintLast Go.Proofs.YtdbgpakmbjhmgaaW.PrintMore
set_option linter.unusedVariables false
set_option linter.unusedSimpArgs false

def finR  (lv : Int) (ms : List S45) (ps : List S48) : Int × Int × List S45 × List S48 :=
  if rightC lv ms ps = false then (1, lv, ms, ps) else if ms.any (fun m => !(m.f1 == 2)) = true then (22, lv, ms, ps) else (0, 2, ms, ps)
set_option maxHeartbeats 4000000 in
set_option maxRecDepth 100000 in
theorem finR_calls  (lv : Int) (A1 : Option Addr) (c1 : Nat) (ms : List S45) (A2 : Option Addr) (c2 : Nat) (ps : List S48) (w : World)
    (hr1 : Kd.C k45 w A1 ms.length ms) (hr2 : Kd.C k48 w A2 ps.length ps) (hl1 : ms.length * 16 ≤ 140737488355328) (hl2 : ps.length * 24 ≤ 140737488355328) :
    Calls Try.prog 19 #[.agg #[.int .i64 lv, .slice A1 ms.length c1, .slice A2 ps.length c2]] w fun e w' => ∃ v1 v2, e = .returned (.tuple #[.agg #[.int .i64 (finR  lv ms ps).2.1, v1, v2], .int .i64 (finR  lv ms ps).1]) ∧ Kd.R k45 45 w' w.heap.size (fun _ => True) v1 (finR  lv ms ps).2.2.1 ∧ Kd.R k48 48 w' w.heap.size (fun _ => True) v2 (finR  lv ms ps).2.2.2 ∧ Below w.heap.size w w' := by
  have HX := Lib.hid (show finR lv ms ps = if rightC lv ms ps = false then (1, lv, ms, ps) else if ms.any (fun m => !(m.f1 == 2)) = true then (22, lv, ms, ps) else (0, 2, ms, ps) from rfl)
  have hmx : ms.length ≤ 9223372036854775807 := hr1.2.1
  generalize finR lv ms ps = r at *
  have HR1 := Lib.hid hr1; clear hr1
  have HR2 := Lib.hid hr2; clear hr2
  have HL1 := Lib.hid hl1; clear hl1
  have HL2 := Lib.hid hl2; clear hl2
  generalize hW0 : (w.alloc (.cells #[.int .i64 lv, .slice A1 ms.length c1, .slice A2 ps.length c2] 26)).alloc (.cells #[.int .i64 0, .slice none 0 0, .slice none 0 0] 26) = W0
  have HB0 := Lib.hid (show Below w.heap.size w W0 by rw [← hW0]; exact below_alloc (below_alloc (Below.refl _ _) _) _)
  have HK0 := Lib.hid (show W0.heap[w.heap.size]? = some (.cells #[.int .i64 lv, .slice A1 ms.length c1, .slice A2 ps.length c2] 26 (0, 0)) by rw [← hW0]; exact alloc_on (new_at (by simp) _) _)
  have HZ0 := Lib.hid (show W0.heap[w.heap.size + 1]? = some (.cells #[.int .i64 0, .slice none 0 0, .slice none 0 0] 26 (0, 0)) by rw [← hW0]; exact new_at (by simp) _)
  have HOW := Lib.hid (own_calls lv A1 c1 ms A2 c2 ps W0 (Kd.C_below HR1.out HB0.out) (Kd.C_below HR2.out HB0.out) HL1.out HL2.out)
  have HW0 := Lib.hid hW0; clear hW0
  obtain ⟨k0, k1, k2, _, _, _, kl⟩ := three_cells HK0.out
  go_enter Try.func19, Try.ntmps19
  go_upto_region 1 with (fail)
  rw [HW0.out]
  go_wp2_with fail
  refine HOW.out.mono ?_
  rintro e Wo ⟨u1, u2, rfl, ho1, ho2, hb⟩
  obtain ⟨A3, c3, rfl⟩ := Kd.R_slice ho1
  obtain ⟨A4, c4, rfl⟩ := Kd.R_slice ho2
  generalize hWA : Wo.alloc (.cells #[.int .i64 lv, .slice A3 ms.length c3, .slice A4 ps.length c4] 26) = WA
  have hbA : Below Wo.heap.size Wo WA := by rw [← hWA]; exact below_alloc (Below.refl _ _) _
  have HB1 := Lib.hid (below_then (below_then HB0.out HB0.out.size hb) (Nat.le_trans HB0.out.size hb.size) hbA)
  have HK1 := Lib.hid (kept_on hbA (kept_on hb HK0.out))
  have HZ1 := Lib.hid (kept_on hbA (kept_on hb HZ0.out))
  have HO1 := Lib.hid (Kd.R_lower (Kd.R_below ho1 hbA) HB0.out.size)
  have HP1 := Lib.hid (Kd.R_lower (Kd.R_below ho2 hbA) HB0.out.size)
  have HA1 := Lib.hid (show WA.heap[Wo.heap.size]? = some (.cells #[.int .i64 lv, .slice A3 ms.length c3, .slice A4 ps.length c4] 26 (0, 0)) by rw [← hWA]; exact heap_alloc_new _ _)
  have HWA := Lib.hid hWA; clear hWA
  clear ho1 ho2 k0 k1 k2 kl
  have hga2 : W0.heap.size = w.heap.size + 2 := by rw [← HW0.out]; simp
  have hga3 := hb.size
  have HGA := Lib.hid (show w.heap.size + 2 ≤ Wo.heap.size by omega)
  clear hga2 hga3
  clear hb hbA
  skip
  have HRT := Lib.hid (right18_calls lv A1 c1 ms A2 c2 ps WA (Kd.C_below HR1.out HB1.out) (Kd.C_below HR2.out HB1.out))
  obtain ⟨k0, k1, k2, _, _, _, kl⟩ := three_cells HK1.out; obtain ⟨z0, z1, z2, z3, z4, z5, z6⟩ := three_cells HZ1.out; obtain ⟨a0, a1, a2, a3, a4, a5, a6⟩ := three_cells HA1.out
  go_upto_region 2 with (fail)
  rw [HWA.out]
  go_wp2_with fail
  refine HRT.out.mono ?_
  rintro e W2 ⟨rfl, hb⟩
  have HB2 := Lib.hid (below_then HB1.out HB1.out.size hb)
  have HK2 := Lib.hid (kept_on hb HK1.out)
  have HZ2 := Lib.hid (kept_on hb HZ1.out)
  have HA2 := Lib.hid (kept_on hb HA1.out)
  have HO2 := Lib.hid (Kd.R_below HO1.out hb)
  have HP2 := Lib.hid (Kd.R_below HP1.out hb)
  clear k0 k1 k2 kl z0 z1 z2 z3 z4 z5 z6 a0 a1 a2 a3 a4 a5 a6
  clear hb
  obtain ⟨k0, k1, k2, _, _, _, kl⟩ := three_cells HK2.out; obtain ⟨z0, z1, z2, z3, z4, z5, z6⟩ := three_cells HZ2.out; obtain ⟨a0, a1, a2, a3, a4, a5, a6⟩ := three_cells HA2.out
  cases d0 : rightC lv ms ps
  · have HR := Lib.hid (HX.out.trans (if_pos d0)); clear d0
    go_wp2
    exact ret_own (k := 1) Try.results19 rfl rfl rfl HZ2.out ⟨_, _, by rw [HR.out], by rw [HR.out]; exact own_R HO2.out HZ2.out (Nat.le_refl _) (by decide), by rw [HR.out]; exact own_R HP2.out HZ2.out (Nat.le_refl _) (by decide), below_set (below_set (below_set HB2.out (by omega)) (by omega)) (by omega)⟩
  have HX2 := Lib.hid (HX.out.trans (if_neg (by rw [d0]; decide))); clear d0 HX
  go_wp2
  go_loopw [6] (fun v6 W => ∃ k : Nat, k ≤ ms.length ∧ v6 = .int .i64 k ∧ Aside0 (ms.any (fun m => !(m.f1 == 2)) = (ms.drop k).any (fun m => !(m.f1 == 2))) ∧ W = W2) (fun v6 _ => ms.length - (intOf v6).toNat)
  case atStart => exact ⟨0, Nat.zero_le _, rfl, ⟨rfl⟩, rfl⟩
  case round =>
    obtain ⟨k, hk, rfl, HE, hwr⟩ := hrel
    obtain rfl : W2 = wr := hwr.symm
    by_cases hlt : k < ms.length
    · obtain ⟨ad, rfl, h0, h1⟩ := at_T45 (Kd.C_below HR1.out HB2.out) k (by omega) (by omega)
      rw [Int.toNat_natCast] at h0 h1
      have hp : (ms.drop k).any (fun m => !(m.f1 == 2)) = (!((rd_T45 ms k).f1 == 2) || (ms.drop (k + 1)).any (fun m => !(m.f1 == 2))) := by
        rw [List.drop_eq_getElem_cons hlt, List.any_cons]
        simp only [rd_T45, Int.toNat_natCast, List.getD_eq_getElem?_getD, List.getElem?_eq_getElem hlt, Option.getD_some]
      have HQ2 := Lib.hid (HE.out.trans hp); clear hp
      generalize rd_T45 ms k = x at *
      have b1 : (0 : Int) ≤ k := by omega
      have b2 : (k : Int) < ms.length := by omega
      by_cases hx : x.f1 = 2
      · have hq : (x.f1 != 2) = false := by simpa using hx
        have HI := Lib.hid (show ms.any (fun m => !(m.f1 == 2)) = (ms.drop (k + 1)).any (fun m => !(m.f1 == 2)) by rw [HQ2.out, hx]; rfl)
        clear hx
        go_wp2
        go_roundw
        case rel => exact ⟨k + 1, by omega, by go_num, ⟨HI.out⟩, trivial⟩
        case measure => simp [intOf]; omega
      · have hq : (x.f1 != 2) = true := by simpa using hx
        have HR := Lib.hid (HX2.out.trans (if_pos (by rw [HQ2.out]; simp [hx])))
        clear hx
        go_wp2
        exact ret_own (k := 22) Try.results19 rfl rfl rfl HZ2.out ⟨_, _, by rw [HR.out], by rw [HR.out]; exact own_R HO2.out HZ2.out (Nat.le_refl _) (by decide), by rw [HR.out]; exact own_R HP2.out HZ2.out (Nat.le_refl _) (by decide), below_set (below_set (below_set HB2.out (by omega)) (by omega)) (by omega)⟩
    · obtain rfl : k = ms.length := by omega
      have HR := Lib.hid (HX2.out.trans (if_neg (by rw [HE.out, List.drop_eq_nil_of_le (by omega)]; decide)))
      generalize hW3 : W2.setCell ⟨Wo.heap.size, 0, none⟩ (.int .i64 2) = W3
      have HZ3 := Lib.hid (show W3.heap[w.heap.size + 1]? = some (.cells #[.int .i64 0, .slice none 0 0, .slice none 0 0] 26 (0, 0)) by rw [← hW3]; exact blk_other HZ2.out _ _ (by show w.heap.size + 1 ≠ Wo.heap.size; have := HGA.out; omega))
      have HA3 := Lib.hid (show W3.heap[Wo.heap.size]? = some (.cells #[.int .i64 2, .slice A3 ms.length c3, .slice A4 ps.length c4] 26 (0, 0)) by rw [← hW3]; simpa using blk_set HA2.out 0 (.int .i64 2))
      have HO3 := Lib.hid (show Kd.R k45 45 W3 w.heap.size (fun _ => True) (.slice A3 ms.length c3) ms by rw [← hW3]; exact Kd.R_set HO2.out HA2.out (by decide) _ _)
      have HP3 := Lib.hid (show Kd.R k48 48 W3 w.heap.size (fun _ => True) (.slice A4 ps.length c4) ps by rw [← hW3]; exact Kd.R_set HP2.out HA2.out (by decide) _ _)
      have HB3 := Lib.hid (show Below w.heap.size w W3 by rw [← hW3]; exact below_set HB2.out (by have := HGA.out; omega))
      have HW3 := Lib.hid hW3; clear hW3
      go_upto_region 11 with (fail)
      rw [HW3.out]
      clear k0 k1 k2 kl z0 z1 z2 z3 z4 z5 z6 a0 a1 a2 a3 a4 a5 a6 
      obtain ⟨z0, z1, z2, z3, z4, z5, z6⟩ := three_cells HZ3.out
      obtain ⟨a0, a1, a2, a3, a4, a5, a6⟩ := three_cells HA3.out
      go_wp2
      exact ret_own (k := 0) Try.results19 rfl rfl rfl HZ3.out ⟨_, _, by rw [HR.out], by rw [HR.out]; exact own_R HO3.out HZ3.out (Nat.le_refl _) (by decide), by rw [HR.out]; exact own_R HP3.out HZ3.out (Nat.le_refl _) (by decide), below_set (below_set (below_set HB3.out (by omega)) (by omega)) (by omega)⟩
end Go.Proofs.Ytdbgpakmbjhmgaa.H

/- The document's Commit. -/
namespace Go.Proofs.Ytdbgpakmbjhmgaa.H
open Go.RowKit Go.Proofs.YtdbgpakmbjhmgaaW.PrintWords Go.Proofs.YtdbgpakmbjhmgaaW.PrintLast Go.Proofs.YtdbgpakmbjhmgaaW.PrintMore
set_option linter.unusedVariables false
set_option linter.unusedSimpArgs false

def commitR (shard : Int) (lv : Int) (ms : List S45) (ps : List S48) : Int × Int × List S45 × List S48 :=
  if ¬ placeE shard lv ms ps = 0 then (placeE shard lv ms ps, lv, ms, ps) else if (rd_T48 ps shard).f2 = 0 then (70, lv, ms, ps) else if rightC lv ms (ps.set shard.toNat ⟨(rd_T48 ps shard).f2, wrap64 ((rd_T48 ps shard).f1 + 1), 0⟩) = false then (50, lv, ms, ps) else (0, lv, ms, (ps.set shard.toNat ⟨(rd_T48 ps shard).f2, wrap64 ((rd_T48 ps shard).f1 + 1), 0⟩))
theorem places_bytes {w : World} {A1 : Option Addr} (n : Nat) (h : n * 24 ≤ 140737488355328) {ps : List S48} (hn : ps.length = n) : ps.length * 24 ≤ 140737488355328 := by rw [hn]; exact h
set_option maxHeartbeats 4000000 in
set_option maxRecDepth 100000 in
theorem commitR_calls (shard : Int) (lv : Int) (A1 : Option Addr) (c1 : Nat) (ms : List S45) (A2 : Option Addr) (c2 : Nat) (ps : List S48) (w : World)
    (hr1 : Kd.C k45 w A1 ms.length ms) (hr2 : Kd.C k48 w A2 ps.length ps) (hl1 : ms.length * 16 ≤ 140737488355328) (hl2 : ps.length * 24 ≤ 140737488355328) :
    Calls Try.prog 29 #[.agg #[.int .i64 lv, .slice A1 ms.length c1, .slice A2 ps.length c2], .int .i64 shard] w fun e w' => ∃ v1 v2, e = .returned (.tuple #[.agg #[.int .i64 (commitR shard lv ms ps).2.1, v1, v2], .int .i64 (commitR shard lv ms ps).1]) ∧ Kd.R k45 45 w' w.heap.size (fun _ => True) v1 (commitR shard lv ms ps).2.2.1 ∧ Kd.R k48 48 w' w.heap.size (fun _ => True) v2 (commitR shard lv ms ps).2.2.2 ∧ Below w.heap.size w w' := by
  have HX := Lib.hid (show commitR shard lv ms ps = if ¬ placeE shard lv ms ps = 0 then (placeE shard lv ms ps, lv, ms, ps) else if (rd_T48 ps shard).f2 = 0 then (70, lv, ms, ps) else if rightC lv ms (ps.set shard.toNat ⟨(rd_T48 ps shard).f2, wrap64 ((rd_T48 ps shard).f1 + 1), 0⟩) = false then (50, lv, ms, ps) else (0, lv, ms, (ps.set shard.toNat ⟨(rd_T48 ps shard).f2, wrap64 ((rd_T48 ps shard).f1 + 1), 0⟩)) from rfl)
  have HPE := Lib.hid (fun h => placeE_zero (shard := shard) (lv := lv) (ms := ms) (ps := ps) h)
  generalize commitR shard lv ms ps = r at *
  have HR1 := Lib.hid hr1; clear hr1
  have HR2 := Lib.hid hr2; clear hr2
  have HL1 := Lib.hid hl1; clear hl1
  have HL2 := Lib.hid hl2; clear hl2
  generalize hW0 : (w.alloc (.cells #[.int .i64 lv, .slice A1 ms.length c1, .slice A2 ps.length c2] 26)).alloc (.cells #[.int .i64 0, .slice none 0 0, .slice none 0 0] 26) = W0
  have HB0 := Lib.hid (show Below w.heap.size w W0 by rw [← hW0]; exact below_alloc (below_alloc (Below.refl _ _) _) _)
  have HK0 := Lib.hid (show W0.heap[w.heap.size]? = some (.cells #[.int .i64 lv, .slice A1 ms.length c1, .slice A2 ps.length c2] 26 (0, 0)) by rw [← hW0]; exact alloc_on (new_at (by simp) _) _)
  have HZ0 := Lib.hid (show W0.heap[w.heap.size + 1]? = some (.cells #[.int .i64 0, .slice none 0 0, .slice none 0 0] 26 (0, 0)) by rw [← hW0]; exact new_at (by simp) _)
  have HOW := Lib.hid (own_calls lv A1 c1 ms A2 c2 ps W0 (Kd.C_below HR1.out HB0.out) (Kd.C_below HR2.out HB0.out) HL1.out HL2.out)
  have HW0 := Lib.hid hW0; clear hW0
  obtain ⟨k0, k1, k2, _, _, _, kl⟩ := three_cells HK0.out
  go_enter Try.func29, Try.ntmps29
  go_upto_region 1 with (fail)
  rw [HW0.out]
  go_wp2_with fail
  refine HOW.out.mono ?_
  rintro e Wo ⟨u1, u2, rfl, ho1, ho2, hb⟩
  obtain ⟨A3, c3, rfl⟩ := Kd.R_slice ho1
  obtain ⟨A4, c4, rfl⟩ := Kd.R_slice ho2
  generalize hWA : Wo.alloc (.cells #[.int .i64 lv, .slice A3 ms.length c3, .slice A4 ps.length c4] 26) = WA
  have hbA : Below Wo.heap.size Wo WA := by rw [← hWA]; exact below_alloc (Below.refl _ _) _
  have HB1 := Lib.hid (below_then (below_then HB0.out HB0.out.size hb) (Nat.le_trans HB0.out.size hb.size) hbA)
  have HK1 := Lib.hid (kept_on hbA (kept_on hb HK0.out))
  have HZ1 := Lib.hid (kept_on hbA (kept_on hb HZ0.out))
  have HO1 := Lib.hid (Kd.R_lower (Kd.R_below ho1 hbA) HB0.out.size)
  have HP1 := Lib.hid (Kd.R_lower (Kd.R_below ho2 hbA) HB0.out.size)
  have HA1 := Lib.hid (show WA.heap[Wo.heap.size]? = some (.cells #[.int .i64 lv, .slice A3 ms.length c3, .slice A4 ps.length c4] 26 (0, 0)) by rw [← hWA]; exact heap_alloc_new _ _)
  have HWA := Lib.hid hWA; clear hWA
  clear ho1 ho2 k0 k1 k2 kl
  have hga2 : W0.heap.size = w.heap.size + 2 := by rw [← HW0.out]; simp
  have hga3 := hb.size
  have HGA := Lib.hid (show w.heap.size + 2 ≤ Wo.heap.size by omega)
  clear hga2 hga3
  clear hb hbA
  skip
  have HPL := Lib.hid (place_calls shard lv A1 c1 ms A2 c2 ps WA (Kd.C_below HR1.out HB1.out) (Kd.C_below HR2.out HB1.out))
  obtain ⟨k0, k1, k2, _, _, _, kl⟩ := three_cells HK1.out; obtain ⟨z0, z1, z2, z3, z4, z5, z6⟩ := three_cells HZ1.out; obtain ⟨a0, a1, a2, a3, a4, a5, a6⟩ := three_cells HA1.out
  go_upto_region 2 with (fail)
  rw [HWA.out]
  go_wp2_with fail
  refine HPL.out.mono ?_
  rintro e W2 ⟨rfl, hb⟩
  have HB2 := Lib.hid (below_then HB1.out HB1.out.size hb)
  have HK2 := Lib.hid (kept_on hb HK1.out)
  have HZ2 := Lib.hid (kept_on hb HZ1.out)
  have HA2 := Lib.hid (kept_on hb HA1.out)
  have HO2 := Lib.hid (Kd.R_below HO1.out hb)
  have HP2 := Lib.hid (Kd.R_below HP1.out hb)
  clear k0 k1 k2 kl z0 z1 z2 z3 z4 z5 z6 a0 a1 a2 a3 a4 a5 a6
  clear hb
  obtain ⟨k0, k1, k2, _, _, _, kl⟩ := three_cells HK2.out; obtain ⟨z0, z1, z2, z3, z4, z5, z6⟩ := three_cells HZ2.out; obtain ⟨a0, a1, a2, a3, a4, a5, a6⟩ := three_cells HA2.out
  generalize placeE shard lv ms ps = pe at *
  by_cases d0 : pe = 0
  · subst d0
    obtain ⟨hrt, hs0, hs1⟩ := HPE.out rfl
    have HX2 := Lib.hid (HX.out.trans (if_neg (by decide)))
    obtain ⟨ad, rfl, h0, h1, h2⟩ := at_T48 (Kd.C_below HR2.out HB2.out) shard hs0 hs1
    obtain ⟨gp, cells, rfl, hgp, hcells⟩ := row_of HP2.out (by omega)
    obtain ⟨q0, q1, q2, q3, q4, q5⟩ := place_cells HP2.out shard hs0 hs1
    have HT := Lib.hid (R_place HP2.out shard hs0 hs1 (rd_T48 ps shard).f2 (wrap64 ((rd_T48 ps shard).f1 + 1)) 0)
    generalize rd_T48 ps shard = p at *
    have HCL := Lib.hid hcells; clear hcells
    by_cases d1 : p.f2 = 0
    · have d1a : (p.f2 == 0) = true := by simpa using d1
      have HR := Lib.hid (HX2.out.trans (if_pos d1))
      go_wp2
      exact ret_own (k := 70) Try.results29 rfl rfl rfl HZ2.out ⟨_, _, by rw [HR.out], by rw [HR.out]; exact own_R HO2.out HZ2.out (Nat.le_refl _) (by decide), by rw [HR.out]; exact own_R HP2.out HZ2.out (Nat.le_refl _) (by decide), below_set (below_set (below_set HB2.out (by omega)) (by omega)) (by omega)⟩
    · have d1a : (p.f2 == 0) = false := by simpa using d1
      have HX3 := Lib.hid (HX2.out.trans (if_neg d1))
      have hne1 : w.heap.size + 1 ≠ gp := fun e => by have h := HZ2.out; rw [e, HCL.out] at h; injection h with h; injection h with _ h; exact absurd h (by decide)
      have hne2 : Wo.heap.size ≠ gp := fun e => by have h := HA2.out; rw [e, HCL.out] at h; injection h with h; injection h with _ h; exact absurd h (by decide)
      have hne3 : w.heap.size ≠ gp := fun e => by have h := HK2.out; rw [e, HCL.out] at h; injection h with h; injection h with _ h; exact absurd h (by decide)
      have HZ3 := Lib.hid (blk_other (blk_other (blk_other HZ2.out ⟨gp, shard.toNat * 3, none⟩ (.int .i64 p.f2) hne1) ⟨gp, shard.toNat * 3 + 1, none⟩ (.int .i64 (wrap64 (p.f1 + 1))) hne1) ⟨gp, shard.toNat * 3 + 2, none⟩ (.int .i64 0) hne1)
      have HA3 := Lib.hid (blk_other (blk_other (blk_other HA2.out ⟨gp, shard.toNat * 3, none⟩ (.int .i64 p.f2) hne2) ⟨gp, shard.toNat * 3 + 1, none⟩ (.int .i64 (wrap64 (p.f1 + 1))) hne2) ⟨gp, shard.toNat * 3 + 2, none⟩ (.int .i64 0) hne2)
      have HK3 := Lib.hid (blk_other (blk_other (blk_other HK2.out ⟨gp, shard.toNat * 3, none⟩ (.int .i64 p.f2) hne3) ⟨gp, shard.toNat * 3 + 1, none⟩ (.int .i64 (wrap64 (p.f1 + 1))) hne3) ⟨gp, shard.toNat * 3 + 2, none⟩ (.int .i64 0) hne3)
      have e1 := blk_set HCL.out (shard.toNat * 3) (.int .i64 p.f2)
      have e2 := blk_set e1 (shard.toNat * 3 + 1) (.int .i64 (wrap64 (p.f1 + 1)))
      have HO3 := Lib.hid (Kd.R_set (Kd.R_set (Kd.R_set HO2.out HCL.out (by decide) (shard.toNat * 3) (.int .i64 p.f2)) e1 (by decide) (shard.toNat * 3 + 1) (.int .i64 (wrap64 (p.f1 + 1)))) e2 (by decide) (shard.toNat * 3 + 2) (.int .i64 0))
      clear e1 e2
      have HB3 := Lib.hid (below_set (j := shard.toNat * 3 + 2) (v := .int .i64 0) (below_set (j := shard.toNat * 3 + 1) (v := .int .i64 (wrap64 (p.f1 + 1))) (below_set (j := shard.toNat * 3) (v := .int .i64 p.f2) HB2.out hgp) hgp) hgp)
      have hlen : (ps.set shard.toNat (⟨p.f2, wrap64 (p.f1 + 1), 0⟩ : S48)).length = ps.length := List.length_set
      have HP3 := Lib.hid (show Kd.R k48 48 (((W2.setCell ⟨gp, shard.toNat * 3, none⟩ (.int .i64 p.f2)).setCell ⟨gp, shard.toNat * 3 + 1, none⟩ (.int .i64 (wrap64 (p.f1 + 1)))).setCell ⟨gp, shard.toNat * 3 + 2, none⟩ (.int .i64 0)) w.heap.size (fun _ => True) (.slice (some ⟨gp, 0, none⟩) (ps.set shard.toNat (⟨p.f2, wrap64 (p.f1 + 1), 0⟩ : S48)).length c4) (ps.set shard.toNat ⟨p.f2, wrap64 (p.f1 + 1), 0⟩) by rw [hlen]; exact HT.out.1)
      generalize (ps.set shard.toNat (⟨p.f2, wrap64 (p.f1 + 1), 0⟩ : S48)) = ps' at *
      have HLE := Lib.hid hlen; clear hlen
      go_upto_region 7 with (fail)
      go_cut [26, 27, 28, 29, 30, 31, 32, 33, 34, 35, 36, 37, 38, 39, 40, 41, 42, 43] (fun v26 v27 v28 v29 v30 v31 v32 v33 v34 v35 v36 v37 v38 v39 v40 v41 v42 v43 W => W.heap[w.heap.size + 1]? = some (.cells #[.int .i64 0, .slice none 0 0, .slice none 0 0] 26 (0, 0)) ∧ W.heap[Wo.heap.size]? = some (.cells #[.int .i64 lv, .slice A3 ms.length c3, .slice (some ⟨gp, 0, none⟩) ps.length c4] 26 (0, 0)) ∧ W.heap[w.heap.size]? = some (.cells #[.int .i64 lv, .slice A1 ms.length c1, .slice (some ad) ps.length c2] 26 (0, 0)) ∧ Kd.R k45 45 W w.heap.size (fun _ => True) (.slice A3 ms.length c3) ms ∧ Kd.R k48 48 W w.heap.size (fun _ => True) (.slice (some ⟨gp, 0, none⟩) ps'.length c4) ps' ∧ Below w.heap.size w W)
      case first =>
        go_region
        go_wp2
        go_meet
        case rel => exact ⟨HZ3.out, HA3.out, HK3.out, Kd.R_move HO3.out (fun _ _ => rfl), Kd.R_move HP3.out (fun _ _ => rfl), below_drew HB3.out⟩
      case rest =>
        obtain ⟨hz, ha, hk, ho, hp, hb⟩ := hcut
        clear HZ3 HA3 HK3 HO3 HP3 HB3 k0 k1 k2 kl z0 z1 z2 z3 z4 z5 z6 a0 a1 a2 a3 a4 a5 a6 q0 q1 q2 q3 q4 q5 h0 h1 h2 HT hs0 hs1
        rw [← HLE.out] at ha
        have HZ3 := Lib.hid hz
        have HA3 := Lib.hid ha
        have HK3 := Lib.hid hk
        have HO3 := Lib.hid ho
        have HP3 := Lib.hid hp
        have HB3 := Lib.hid hb
        clear hz ha hk ho hp hb
        obtain ⟨k0, k1, k2, _, _, _, kl⟩ := three_cells HK3.out; obtain ⟨z0, z1, z2, z3, z4, z5, z6⟩ := three_cells HZ3.out; obtain ⟨a0, a1, a2, a3, a4, a5, a6⟩ := three_cells HA3.out
        have HRT := Lib.hid (right18_calls lv A3 c3 ms (some ⟨gp, 0, none⟩) c4 ps' wc (Kd.R_reads' HO3.out).2.2 (Kd.R_reads' HP3.out).2.2)
        go_wp2_with fail
        refine HRT.out.mono ?_
        rintro e W4 ⟨rfl, hb⟩
        have HB4 := Lib.hid (below_then HB3.out HB3.out.size hb)
        have HK4 := Lib.hid (kept_on hb HK3.out)
        have HZ4 := Lib.hid (kept_on hb HZ3.out)
        have HA4 := Lib.hid (kept_on hb HA3.out)
        have HO4 := Lib.hid (Kd.R_below HO3.out hb)
        have HP4 := Lib.hid (Kd.R_below HP3.out hb)
        clear k0 k1 k2 kl z0 z1 z2 z3 z4 z5 z6 a0 a1 a2 a3 a4 a5 a6
        clear hb
        obtain ⟨k0, k1, k2, _, _, _, kl⟩ := three_cells HK4.out; obtain ⟨z0, z1, z2, z3, z4, z5, z6⟩ := three_cells HZ4.out; obtain ⟨a0, a1, a2, a3, a4, a5, a6⟩ := three_cells HA4.out
        cases d2 : rightC lv ms ps'
        · have HR := Lib.hid (HX3.out.trans (if_pos d2)); clear d2
          have HOW2 := Lib.hid (own_calls lv A1 c1 ms (some ad) c2 ps W4 (Kd.C_below HR1.out HB4.out) (Kd.C_below HR2.out HB4.out) HL1.out HL2.out)
          go_wp2_with fail
          refine HOW2.out.mono ?_
          rintro e W5 ⟨t1, t2, rfl, ho1, ho2, hb⟩
          obtain ⟨A5, c5, rfl⟩ := Kd.R_slice ho1
          obtain ⟨A6, c6, rfl⟩ := Kd.R_slice ho2
          have HO5 := Lib.hid (Kd.R_lower ho1 HB4.out.size)
          have HP5 := Lib.hid (Kd.R_lower ho2 HB4.out.size)
          have HB5 := Lib.hid (below_then HB4.out HB4.out.size hb)
          have HZ5 := Lib.hid (kept_on hb HZ4.out)
          clear ho1 ho2 hb k0 k1 k2 kl z0 z1 z2 z3 z4 z5 z6 a0 a1 a2 a3 a4 a5 a6
          obtain ⟨z0, z1, z2, z3, z4, z5, z6⟩ := three_cells HZ5.out
          go_wp2
          exact ret_own (k := 50) Try.results29 rfl rfl rfl HZ5.out ⟨_, _, by rw [HR.out], by rw [HR.out]; exact own_R HO5.out HZ5.out (Nat.le_refl _) (by decide), by rw [HR.out]; exact own_R HP5.out HZ5.out (Nat.le_refl _) (by decide), below_set (below_set (below_set HB5.out (by omega)) (by omega)) (by omega)⟩
        · have HR := Lib.hid (HX3.out.trans (if_neg (by rw [d2]; decide))); clear d2
          go_wp2
          exact ret_own (k := 0) Try.results29 rfl rfl rfl HZ4.out ⟨_, _, by rw [HR.out], by rw [HR.out]; exact own_R HO4.out HZ4.out (Nat.le_refl _) (by decide), by rw [HR.out]; exact own_R HP4.out HZ4.out (Nat.le_refl _) (by decide), below_set (below_set (below_set HB4.out (by omega)) (by omega)) (by omega)⟩
  · have HR := Lib.hid (HX.out.trans (if_pos d0))
    have d0a : (pe != 0) = true := by simpa using d0
    go_wp2
    exact ret_own (k := pe) Try.results29 rfl rfl rfl HZ2.out ⟨_, _, by rw [HR.out], by rw [HR.out]; exact own_R HO2.out HZ2.out (Nat.le_refl _) (by decide), by rw [HR.out]; exact own_R HP2.out HZ2.out (Nat.le_refl _) (by decide), below_set (below_set (below_set HB2.out (by omega)) (by omega)) (by omega)⟩
end Go.Proofs.Ytdbgpakmbjhmgaa.H
