/- The law HistoryMay. -/
import Derived.Test.YtadhfedbgeenlaaLNa
namespace Go.Proofs.Ytadhfedbgeenlaa.H
open Go.RowKit Go.Proofs.YtadhfedbgeenlaaW.PrintWords Go.Proofs.YtadhfedbgeenlaaW.PrintLast Go.Proofs.YtadhfedbgeenlaaW.PrintMore
set_option linter.unusedVariables false
set_option linter.unusedSimpArgs false
open Aw
theorem nodup_rows {es : List (List Rec)} (h : es.Nodup) {i k : Nat} (hi : i < es.length) (hk : k < i) : ¬ rdRow es i = rdRow es k := by
  have hk2 : k < es.length := by omega
  have h1 : rdRow es (i : Int) = es[i] := by
    show es.getD (Int.toNat i) [] = es[i]
    rw [Int.toNat_natCast, List.getD_eq_getElem?_getD, List.getElem?_eq_getElem hi]; rfl
  have h2 : rdRow es (k : Int) = es[k] := by
    show es.getD (Int.toNat k) [] = es[k]
    rw [Int.toNat_natCast, List.getD_eq_getElem?_getD, List.getElem?_eq_getElem hk2]; rfl
  rw [h1, h2]
  intro e
  exact List.pairwise_iff_getElem.1 h k i hk2 hi hk e.symm

set_option maxHeartbeats 4000000 in
set_option maxRecDepth 100000 in
theorem may_calls (raw ops : List S58) (known : List Int) (A0 A1 A2 : Option Addr) (c0 c1 c2 : Nat) (w : World) (hr : Kd.C k58 w A0 raw.length raw) (ho : Kd.C k58 w A1 ops.length ops) (hk : Kd.C (Kd.int .i64) w A2 known.length known) (hir : ∀ x ∈ raw, InR x) (hio : ∀ x ∈ ops, InR x) (hik : ∀ x ∈ known, InI x) :
    Calls Try.prog 4 #[.slice A0 raw.length c0, .slice A1 ops.length c1, .slice A2 known.length c2] w fun e w' => e = .returned (.bool true) ∧ Below w.heap.size w w' := by
  have HTB := Lib.hid (fun (W : World) (hb : Below w.heap.size w W) => table_calls raw A0 c0 W (Kd.C_below hr hb) hir)
  have HEV := Lib.hid (fun (t : List S54) (A : Option Addr) (c : Nat) (W : World) (hb : Below w.heap.size w W) (ht : Kd.C k54 W A t.length t) (hp : PlainT t) (hlen : t.length ≤ 1000) (hct : t.length ≤ c) => events_calls t ops known A A1 A2 c c1 c2 W ht (Kd.C_below ho hb) (Kd.C_below hk hb) hio hik hp hlen hct)
  clear hr ho hir hio hk hik
  go_enter Try.func4, Try.ntmps4
  go_wp2_with fail
  refine (awake_calls w).mono ?_
  rintro E W1 ⟨rfl, hb⟩
  have HB1 := Lib.hid hb
  clear hb
  go_wp2_with fail
  refine (HTB.out W1 HB1.out).mono ?_
  rintro E W2 ⟨t, A3, c3, rfl, hT⟩
  have HB2 := Lib.hid (below_then HB1.out HB1.out.size hT.2.1)
  have HT := Lib.hid (Kd.N_reads' hT.1).2
  have HTO := Lib.hid hT.2.2
  have HTL := Lib.hid ((tabOk_iff.1 hT.2.2.1).2.2)
  clear hT HTB HB1
  go_wp2_with fail
  refine (HEV.out t A3 c3 W2 HB2.out HT.out.2 HTO.out.2 (by have := HTL.out; omega) HT.out.1).mono ?_
  rintro E W3 ⟨l, z, kn, un, A4, c4, A5, c5, rfl, hP, hW⟩
  have HP := Lib.hid hP
  have HW := Lib.hid hW
  have HLN := Lib.hid (Nat.le_trans (Nat.le_of_eq hP.2.1) hP.2.2.1)
  have HUN := Lib.hid (Nat.le_trans (Nat.le_of_eq hP.2.2.2.1) hP.2.2.2.2.1)
  clear hP hW HEV
  have HZE := Lib.hid (run_ends HP.out.1)
  have HND := Lib.hid (show (endsT t l).Nodup from dd_nodup _)
  have HB23 := Lib.hid HW.out.2.2.2
  have HZC := Lib.hid (Kd.F_now HW.out.1)
  have HMR := Lib.hid (Kd.N_reads' HW.out.2.2.1).2
  have HBW := Lib.hid (below_then HB2.out HB2.out.size HB23.out)
  have hen := ends_calls t l A3 c3 A5 c5 W3 (Kd.C_below HT.out.2 HB23.out) HMR.out.2 HMR.out.1 HTO.out.2 (by have := HTL.out; omega)
  rw [endsE_ok HTO.out.1 HLN.out (by have := HUN.out; omega)] at hen
  have hfc := fun (W : World) (hb : Below W3.heap.size W3 W) => first_calls t l A3 c3 A5 c5 W (Kd.C_below (Kd.C_below HT.out.2 HB23.out) hb) (Kd.C_below HMR.out.2 hb) HMR.out.1 HTO.out.2 (by have := HTL.out; omega)
  rw [firstE_ok HTO.out.1 HLN.out (by have := HUN.out; omega), first_end (run_len HP.out.1)] at hfc
  have HFC := Lib.hid hfc
  have HEN := Lib.hid hen
  clear hen hfc HW HP HMR HTO HTL HT
  generalize endsT t l = es at *
  go_wp2_with fail
  refine HEN.out.mono ?_
  rintro E W4 ⟨hb, A6, c6, rfl, hC⟩
  have HCS := Lib.hid hC
  have HB34 := Lib.hid hb
  have HB4 := Lib.hid (below_then HBW.out HBW.out.size hb)
  have HZ4 := Lib.hid (Kd.C_below HZC.out hb)
  have hml := hC.2.1
  have HIN := Lib.hid (hasT_yes HZE.out)
  clear hb hC HEN HZC HBW HZE
  go_wp2
  go_loopw [13, 14] (fun v13 v14 W => ∃ i : Nat, i ≤ es.length ∧ v14 = .int .i64 i ∧ v13 = .bool (hasT z (es.take i)) ∧ Aside0 (Below W4.heap.size W4 W)) (fun _ v14 _ => es.length - (intOf v14).toNat)
  case atStart => exact ⟨0, Nat.zero_le _, rfl, rfl, ⟨Below.refl _ _⟩⟩
  case round =>
    obtain ⟨i, hi, rfl, rfl, HI⟩ := hrel
    have HB := Lib.hid HI.out
    clear HI
    by_cases hlt : i < es.length
    rotate_left
    · obtain rfl : i = es.length := by omega
      have hq : hasT z (es.take es.length) = true := by rw [List.take_length]; exact HIN.out
      rw [hq]
      have HFW := Lib.hid (HFC.out _ (below_then HB34.out HB34.out.size HB.out))
      have HBR := Lib.hid (below_then HB4.out HB4.out.size HB.out)
      clear hq hlt HFC HB
      go_wp2_with fail
      refine HFW.out.mono ?_
      rintro E W5 ⟨rfl, hb⟩
      have HB5 := Lib.hid (below_then HBR.out HBR.out.size hb)
      clear hb HFW HBR
      go_wp2
      go_ret
      exact ⟨rfl, HB5.out⟩
    obtain ⟨ad, A7, c7, hA, h0, hl0, hC0⟩ := at_row HCS.out (i : Int) (by omega) (by omega)
    subst hA
    rw [Int.toNat_natCast] at h0
    have HX0 := Lib.hid h0
    have HX1 := Lib.hid hC0
    have HAT := Lib.hid (hasT_step (x := z) hlt)
    have HNE := Lib.hid (fun k (hk : k < i) => nodup_rows HND.out hlt hk)
    clear h0 hC0 hl0
    generalize rdRow es i = x at *
    have b1 : (0 : Int) ≤ i := by omega
    have b2 : (i : Int) < es.length := by omega
    have HSM := Lib.hid (fun (W : World) (hb : Below W4.heap.size W4 W) => tab2_calls A7 A4 c7 c4 x z W (Kd.C_below HX1.out hb) (Kd.C_below HZ4.out hb))
    have h0 := kept_cell HB.out HX0.out
    go_upto_region 9 with (fail)
    go_cut [13] (fun v13 W => v13 = .bool (hasT z (es.take (i + 1))) ∧ Aside0 (Below W4.heap.size W4 W))
    case first =>
      cases hh : hasT z (es.take i)
      rotate_left
      · have HNX := Lib.hid (HAT.out.trans (by rw [hh]; rfl : _ = true))
        clear hh HAT
        go_wp2
        go_meet
        case rel => exact ⟨by rw [HNX.out], ⟨HB.out⟩⟩
      have HNX := Lib.hid (HAT.out.trans (by rw [hh, Bool.false_or] : _ = decide (x = z)))
      have HSQ := Lib.hid (HSM.out _ HB.out)
      rw [← HNX.out] at HSQ
      clear hh HAT HSM
      go_wp2_with fail
      refine HSQ.out.mono ?_
      rintro E W5 ⟨rfl, hb⟩
      have HB5 := Lib.hid (below_then HB.out HB.out.size hb)
      clear hb HSQ
      go_wp2
      go_meet
      case rel => exact ⟨rfl, ⟨HB5.out⟩⟩
    obtain ⟨rfl, HI⟩ := hcut
    clear HB h0 HSM HAT
    have HB := Lib.hid HI.out
    clear HI
    go_wp2
    go_loopw [15] (fun v15 W => ∃ k : Nat, k ≤ i ∧ v15 = .int .i64 k ∧ Aside0 (Below W4.heap.size W4 W)) (fun v15 _ => i - (intOf v15).toNat)
    case atStart => exact ⟨0, Nat.zero_le _, rfl, ⟨HB.out⟩⟩
    case round =>
      obtain ⟨k, hk, rfl, HI⟩ := hrel
      clear HB
      have HB := Lib.hid HI.out
      clear HI
      by_cases hki : k < i
      rotate_left
      · have z1 : ¬ (k : Int) < i := by omega
        have z2 : decide (k < i) = false := decide_eq_false hki
        clear hki
        go_wp2
        go_roundw
        case rel => exact ⟨i + 1, by omega, by go_num, rfl, ⟨HB.out⟩⟩
        case measure => simp [intOf]; omega
      have z1 : (k : Int) < i := by omega
      have z2 : decide (k < i) = true := decide_eq_true hki
      have z3 : (0 : Int) ≤ k := by omega
      have z4 : (k : Int) < es.length := by omega
      obtain ⟨ad2, A8, c8, hA2, h1, hl1, hC1⟩ := at_row HCS.out (k : Int) (by omega) (by omega)
      injection hA2 with hA2
      subst hA2
      rw [Int.toNat_natCast] at h1
      have HNK := Lib.hid (decide_eq_false (HNE.out k hki))
      have HC1 := Lib.hid hC1
      have k1 := kept_cell HB.out h1
      have k0 := kept_cell HB.out HX0.out
      clear h1 hC1 hl1 hki
      generalize rdRow es k = y at *
      have HSM := Lib.hid (fun (W : World) (hb : Below wr.heap.size wr W) => tab2_calls A7 A8 c7 c8 x y W (Kd.C_below HX1.out (below_then HB.out HB.out.size hb)) (Kd.C_below HC1.out (below_then HB.out HB.out.size hb)))
      rw [HNK.out] at HSM
      have HKP := Lib.hid (show ∀ W W2 : World, (W.cell? (ad.add k) = some (.slice A8 y.length c8) ∧ W.cell? (ad.add i) = some (.slice A7 x.length c7) ∧ Aside0 (Below wr.heap.size wr W)) → Below W.heap.size W W2 → (W2.cell? (ad.add k) = some (.slice A8 y.length c8) ∧ W2.cell? (ad.add i) = some (.slice A7 x.length c7) ∧ Aside0 (Below wr.heap.size wr W2)) from fun W W2 h hb => ⟨kept_cell hb h.1, kept_cell hb h.2.1, ⟨below_then h.2.2.out h.2.2.out.size hb⟩⟩)
      have hs0 : wr.cell? (ad.add k) = some (.slice A8 y.length c8) ∧ wr.cell? (ad.add i) = some (.slice A7 x.length c7) ∧ Aside0 (Below wr.heap.size wr wr) := ⟨k1, k0, ⟨Below.refl _ _⟩⟩
      clear k0 k1
      go_wp2_with fail
      go_region_held3 (fun W => W.cell? (ad.add k) = some (.slice A8 y.length c8) ∧ W.cell? (ad.add i) = some (.slice A7 x.length c7) ∧ Aside0 (Below wr.heap.size wr W))
        (first | assumption | exact HKP.out _ _ (by assumption) (below_drew (Below.refl _ _)) | go_keep)
        (first | (go_at_call 20; (with_reducible refine (HSM.out _ ?hbx).mono ?_); (case hbx => exact (by assumption : _ ∧ _ ∧ Aside0 (Below wr.heap.size wr _)).2.2.out); rintro E w2 ⟨rfl, hb2⟩; have hs2 := HKP.out _ _ (by assumption) hb2))
      all_goals
        go_wp2
        go_roundw
        case rel => exact ⟨k + 1, by omega, by go_num, ⟨below_then HB.out HB.out.size (by assumption : _ ∧ _ ∧ Aside0 (Below wr.heap.size wr _)).2.2.out⟩⟩
        case measure => simp [intOf]; omega

end Go.Proofs.Ytadhfedbgeenlaa.H
