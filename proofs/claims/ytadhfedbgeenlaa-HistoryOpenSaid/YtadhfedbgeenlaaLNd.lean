/- The law HistoryOpen. -/
import Derived.Test.YtadhfedbgeenlaaLNa
import Derived.Test.YtadhfedbgeenlaaLMe
namespace Go.Proofs.Ytadhfedbgeenlaa.H
open Go.RowKit Go.Proofs.YtadhfedbgeenlaaW.PrintWords Go.Proofs.YtadhfedbgeenlaaW.PrintLast Go.Proofs.YtadhfedbgeenlaaW.PrintMore
set_option linter.unusedVariables false
set_option linter.unusedSimpArgs false
open Aw
theorem rdRow_mem {es : List (List Rec)} {k : Nat} (h : k < es.length) : rdRow es k ∈ es := by
  have h2 : rdRow es (k : Int) = es[k] := by
    show es.getD (Int.toNat k) [] = es[k]
    rw [Int.toNat_natCast, List.getD_eq_getElem?_getD, List.getElem?_eq_getElem h]; rfl
  rw [h2]
  exact List.getElem_mem _

set_option maxHeartbeats 4000000 in
set_option maxRecDepth 100000 in
theorem open_calls (raw ops : List S58) (known : List Int) (A0 A1 A2 : Option Addr) (c0 c1 c2 : Nat) (which : Int) (w : World) (hr : Kd.C k58 w A0 raw.length raw) (ho : Kd.C k58 w A1 ops.length ops) (hk : Kd.C (Kd.int .i64) w A2 known.length known) (hir : ∀ x ∈ raw, InR x) (hio : ∀ x ∈ ops, InR x) (hik : ∀ x ∈ known, InI x) (h_which : InI which) :
    Calls Try.prog 7 #[.slice A0 raw.length c0, .slice A1 ops.length c1, .slice A2 known.length c2, .int .i64 which] w fun e w' => e = .returned (.bool true) ∧ Below w.heap.size w w' := by
  have HTB := Lib.hid (fun (W : World) (hb : Below w.heap.size w W) => table_calls raw A0 c0 W (Kd.C_below hr hb) hir)
  have HEV := Lib.hid (fun (t : List S54) (A : Option Addr) (c : Nat) (W : World) (hb : Below w.heap.size w W) (ht : Kd.C k54 W A t.length t) (hp : PlainT t) (hlen : t.length ≤ 1000) (hct : t.length ≤ c) => events_calls t ops known A A1 A2 c c1 c2 W ht (Kd.C_below ho hb) (Kd.C_below hk hb) hio hik hp hlen hct)
  clear hr ho hir hio hk hik
  go_enter Try.func7, Try.ntmps7
  go_wp2_with fail
  refine (awake_calls w).mono ?_
  rintro E W1 ⟨rfl, hb⟩
  have HB1 := Lib.hid hb
  clear hb
  go_wp2_with fail
  refine (HTB.out W1 HB1.out).mono ?_
  rintro E W2 ⟨t, A3, c3, rfl, hT⟩
  have HB2 := Lib.hid (below_then HB1.out HB1.out.size hT.2.1)
  have HT := Lib.hid (Kd.N_reads' hT.1).2
  have HTO := Lib.hid hT.2.2
  have HTL := Lib.hid ((tabOk_iff.1 hT.2.2.1).2.2)
  clear hT HTB HB1
  go_wp2_with fail
  refine (HEV.out t A3 c3 W2 HB2.out HT.out.2 HTO.out.2 (by have := HTL.out; omega) HT.out.1).mono ?_
  rintro E W3 ⟨l, z, kn, un, A4, c4, A5, c5, rfl, hP, hW⟩
  have HP := Lib.hid hP
  have HW := Lib.hid hW
  have HLN := Lib.hid (Nat.le_trans (Nat.le_of_eq hP.2.1) hP.2.2.1)
  have HUN := Lib.hid (Nat.le_trans (Nat.le_of_eq hP.2.2.2.1) hP.2.2.2.2.1)
  clear hP hW HEV
  have HB23 := Lib.hid HW.out.2.2.2
  have HNE := Lib.hid HW.out.2.2.1
  have HMR := Lib.hid (Kd.N_reads' HW.out.2.2.1).2
  have HBW := Lib.hid (below_then HB2.out HB2.out.size HB23.out)
  have HRN := Lib.hid HP.out.1
  have HTC := Lib.hid (Kd.C_below HT.out.2 HB23.out)
  clear HW HP HT
  by_cases hl : l.length = 0
  · have y1 : ((l.length : Int) == 0) = true := by rw [hl]; rfl
    have y2 : (l.length == 0) = true := by rw [hl]; rfl
    rw [hl]
    clear hl
    go_wp2
    go_ret
    exact ⟨rfl, HBW.out⟩
  have y0 : 0 < l.length := by omega
  have y1 : ((l.length : Int) == 0) = false := by rw [beq_eq_false_iff_ne]; omega
  have y2 : (l.length == 0) = false := by rw [beq_eq_false_iff_ne]; omega
  have HY := Lib.hid y0
  clear hl y0
  go_upto_region 6 with (fail)
  go_cut [13] (fun v13 W => ∃ (g cm : Nat), v13 = .slice (some ⟨g, 0, none⟩) l.length cm ∧ Aside0 (W3.heap.size ≤ g ∧ Kd.N k38 38 W W3.heap.size (fun j => W2.heap.size ≤ j) (.slice (some ⟨g, 0, none⟩) l.length cm) l ∧ Below W3.heap.size W3 W))
  case first =>
    go_wp2_with (at_builtin; refine Kd.N_append_rows k38 (w0 := W3) W3.heap.size rfl (.const (.slice none 0 0)) (.tmp 35) 24 38 (.agg #[(.int .i64 0), (.string ⟨#[]⟩), (.string ⟨#[]⟩), (.int .i64 0), (.string ⟨#[]⟩), (.int .i64 0), (.string ⟨#[]⟩), (.bool false), (.int .i64 0), (.int .i64 0), (.string ⟨#[]⟩), (.slice none 0 0)]) 152 rfl Try.underlying24 info38 rfl (by decide) (by omega) (.slice none 0 0) [] l _ _ _ (fun j => W2.heap.size ≤ j) (fun j => W2.heap.size ≤ j) rfl rfl ?aO ?aR ?aK ?aH ?aB ?aS ?aL ?_; (case aO => exact Kd.N_nil _ _ _ _ _); (case aR => exact Kd.N_F HNE.out); (case aK => exact (fun j hj => ⟨hj, by simp [Value.ownBlock]⟩)); (case aH => exact (fun k hk => Nat.le_trans HB23.out.size hk)); (case aB => exact Below.refl _ _); (case aS => exact Nat.le_refl _); (case aL => have := HLN.out; simp; omega); intro v w2 ho hb hg hat)
    obtain ⟨g, cm, he, hg2, _⟩ := Kd.N_form ho HY.out
    subst he
    have HO := Lib.hid (And.intro hg2 (And.intro ho hb))
    clear ho hb hg hat hg2
    go_meet
    case rel => exact ⟨g, cm, rfl, ⟨HO.out⟩⟩
  obtain ⟨g, cm, rfl, HM⟩ := hcut
  have HG := Lib.hid HM.out.1
  have HN := Lib.hid HM.out.2.1
  have HB3 := Lib.hid HM.out.2.2
  clear HM HNE
  have HPB := Lib.hid (pickI_bound which l.length (by have := HY.out; omega))
  have HPC := Lib.hid (fun w => pick21_calls which l.length h_which (by have := HY.out; omega) (by have := HLN.out; omega) w)
  generalize hi0 : pickI which l.length = i0 at *
  obtain ⟨i, rfl⟩ : ∃ i : Nat, i0 = i := ⟨i0.toNat, by have := HPB.out; omega⟩
  clear hi0
  have HI := Lib.hid (show i < l.length by have := HPB.out; omega)
  have x1 : (0 : Int) ≤ i := by omega
  have x2 : (i : Int) < l.length := by have := HI.out; omega
  have HS := Lib.hid (setEv HN.out i HI.out)
  have HSB := Lib.hid (put12o_below (o := i * 12) (y0 := .int .i64 (rd_T38 l i).f0.f0) (y1 := .string (rd_T38 l i).f0.f1) (y2 := .string (rd_T38 l i).f0.f2) (y3 := .int .i64 (rd_T38 l i).f0.f3) (y4 := .string (rd_T38 l i).f0.f4) (y5 := .int .i64 (rd_T38 l i).f0.f5) (y6 := .string (rd_T38 l i).f0.f6) (y7 := .bool false) (y8 := .int .i64 0) (y9 := .int .i64 0) (y10 := .string ⟨#[]⟩) (y11 := .slice none 0 0) HB3.out HG.out)
  have hgt := rdE_get HI.out
  have HEO := Lib.hid (ends_open (t := t) hgt)
  have HOF := Lib.hid (open_first HRN.out hgt)
  have HCT := Lib.hid (count_one (l := l) (k := i) (e' := evU (rd_T38 l i).f0))
  have HLL := Lib.hid (show (l.set i (evU (rd_T38 l i).f0)).length = l.length from List.length_set)
  obtain ⟨A11, c11, q0, q1, q2, q3, q4, q5, q6, q7, q8, q9, q10, q11, ql⟩ := atE HN.out i HI.out
  clear hgt
  go_upto_region 7 with (fail)
  go_cut [13] (fun v13 W => v13 = .slice (some ⟨g, 0, none⟩) l.length cm ∧ Aside0 (Kd.N k38 38 W W3.heap.size (fun j => W2.heap.size ≤ j) (.slice (some ⟨g, 0, none⟩) l.length cm) (l.set i (evU (rd_T38 l i).f0)) ∧ Below W3.heap.size W3 W))
  case first =>
    have qf0 : wc.frozen? ⟨g, i * 12, none⟩ = false := ql 0
    have qf1 := ql 1
    have qf2 := ql 2
    have qf3 := ql 3
    have qf4 := ql 4
    have qf5 := ql 5
    have qf6 := ql 6
    have qf7 := ql 7
    have qf8 := ql 8
    have qf9 := ql 9
    have qf10 := ql 10
    have qf11 := ql 11
    clear HEO HOF HCT HLL ql
    generalize (rd_T38 l i).f0 = o at *
    go_wp2_with fail
    refine (HPC.out _).mono ?_
    rintro E W4 ⟨rfl, rfl⟩
    go_wp2_with fail
    refine (HPC.out _).mono ?_
    rintro E W4 ⟨rfl, rfl⟩
    go_wp2
    go_meet
    case rel => exact ⟨rfl, ⟨HS.out, HSB.out⟩⟩
  obtain ⟨rfl, HM⟩ := hcut
  clear q0 q1 q2 q3 q4 q5 q6 q7 q8 q9 q10 q11 ql HS HSB HN HB3 HPC
  generalize l.set i (evU (rd_T38 l i).f0) = m at *
  have HMM := Lib.hid (Kd.N_reads' HM.out.1).2
  have HBC := Lib.hid HM.out.2
  have HB4 := Lib.hid (below_then HBW.out HBW.out.size HM.out.2)
  clear HM HBW
  have hm16 : m.length ≤ 16 := by rw [HLL.out]; exact HLN.out
  have hmu : m.countP (fun e => !e.f1) ≤ 8 := Nat.le_trans HCT.out (Nat.le_trans (Nat.add_le_add_right HUN.out 1) (by decide))
  have hmc : m.length ≤ cm := by rw [HLL.out]; exact HMM.out.1
  have HMX := Lib.hid HEO.out.1
  have hge := HEO.out.2
  have hen := ends_calls t l A3 c3 A5 c5 wc (Kd.C_below HTC.out HBC.out) (Kd.C_below HMR.out.2 HBC.out) HMR.out.1 HTO.out.2 (by have := HTL.out; omega)
  rw [endsE_ok HTO.out.1 HLN.out (Nat.le_trans HUN.out (by decide))] at hen
  have HEN1 := Lib.hid hen
  have HEN2 := Lib.hid (show ∀ W, Below wc.heap.size wc W → Calls Try.prog 13 #[.slice A3 t.length c3, .slice (some ⟨g, 0, none⟩) l.length cm] W fun e w' => Below W.heap.size W w' ∧ ∃ A' c', e = .returned (.tuple #[.slice A' (endsT t m).length c', .int .i64 0]) ∧ Kd.C (Kd.slice 54 k54) w' A' (endsT t m).length (endsT t m) from fun W hb => by
    have h := ends_calls t m A3 c3 (some ⟨g, 0, none⟩) cm W (Kd.C_below (Kd.C_below HTC.out HBC.out) hb) (Kd.C_below HMM.out.2 hb) hmc HTO.out.2 (by have := HTL.out; omega)
    rw [endsE_ok HTO.out.1 hm16 hmu, HLL.out] at h
    exact h)
  have HFC := Lib.hid (show ∀ W, Below wc.heap.size wc W → Calls Try.prog 16 #[.slice A3 t.length c3, .slice (some ⟨g, 0, none⟩) l.length cm] W fun e w' => e = .returned (.int .i64 l.length) ∧ Below W.heap.size W w' from fun W hb => by
    have h := first_calls t m A3 c3 (some ⟨g, 0, none⟩) cm W (Kd.C_below (Kd.C_below HTC.out HBC.out) hb) (Kd.C_below HMM.out.2 hb) hmc HTO.out.2 (by have := HTL.out; omega)
    rw [firstE_ok HTO.out.1 hm16 hmu, HOF.out, HLL.out] at h
    exact h)
  clear hm16 hmu hmc hen HEO HOF HCT HLL HMM HTC HMR HTO HTL HRN
  generalize endsT t l = es1 at *
  generalize endsT t m = es2 at *
  go_wp2_with fail
  refine HEN1.out.mono ?_
  rintro E W5 ⟨hb, A6, c6, rfl, hC⟩
  have HC5 := Lib.hid hC
  have HB45 := Lib.hid hb
  have HE2 := Lib.hid (HEN2.out W5 hb)
  clear hb hC HEN1 HEN2
  go_wp2_with fail
  refine HE2.out.mono ?_
  rintro E W6 ⟨hb, A7, c7, rfl, hC⟩
  have HCY := Lib.hid hC
  have HCX := Lib.hid (Kd.C_below HC5.out hb)
  have HB46 := Lib.hid (below_then HB45.out HB45.out.size hb)
  have HB6 := Lib.hid (below_then HB4.out HB4.out.size HB46.out)
  have hml2 := hC.2.1
  have hml1 := HCX.out.2.1
  clear hb hC HE2 HC5 HB45 HB4
  have y3 : ¬ (es2.length : Int) < es1.length := by omega
  have y4 : decide (es2.length < es1.length) = false := decide_eq_false (by omega)
  go_wp2
  go_loopw [18] (fun v18 W => ∃ p : Nat, p ≤ es1.length ∧ v18 = .int .i64 p ∧ Aside0 (Below W6.heap.size W6 W)) (fun v18 _ => es1.length - (intOf v18).toNat)
  case atStart => exact ⟨0, Nat.zero_le _, rfl, ⟨Below.refl _ _⟩⟩
  case round =>
    obtain ⟨p, hp, rfl, HI⟩ := hrel
    have HB := Lib.hid HI.out
    clear HI y3 y4
    by_cases hlt : p < es1.length
    rotate_left
    · obtain rfl : p = es1.length := by omega
      have HFW := Lib.hid (HFC.out _ (below_then HB46.out HB46.out.size HB.out))
      have HBR := Lib.hid (below_then HB6.out HB6.out.size HB.out)
      clear hlt HFC HB
      go_wp2_with fail
      refine HFW.out.mono ?_
      rintro E W7 ⟨rfl, hb⟩
      have HB7 := Lib.hid (below_then HBR.out HBR.out.size hb)
      clear hb HFW HBR
      go_wp2
      go_ret
      exact ⟨rfl, HB7.out⟩
    obtain ⟨ad, A8, c8, hA, h0, hl0, hC0⟩ := at_row HCX.out (p : Int) (by omega) (by omega)
    subst hA
    rw [Int.toNat_natCast] at h0
    have HX0 := Lib.hid h0
    have HX1 := Lib.hid hC0
    have HIN := Lib.hid (HMX.out _ (rdRow_mem hlt))
    clear h0 hC0 hl0
    generalize rdRow es1 p = x at *
    have b1 : (0 : Int) ≤ p := by omega
    have b2 : (p : Int) < es1.length := by omega
    go_upto_region 16 with (fail)
    go_wp2
    go_loopw [19, 20] (fun v19 v20 W => ∃ (k : Nat), k ≤ es2.length ∧ v20 = .int .i64 k ∧ v19 = .bool (hasT x (es2.take k)) ∧ Aside0 (Below W6.heap.size W6 W)) (fun _ v20 _ => es2.length - (intOf v20).toNat)
    case atStart => exact ⟨0, Nat.zero_le _, rfl, rfl, ⟨HB.out⟩⟩
    case round =>
      obtain ⟨k, hk, rfl, rfl, HI2⟩ := hrel
      clear HB
      have HB := Lib.hid HI2.out
      clear HI2
      have h0 := kept_cell HB.out HX0.out
      have b3 : (0 : Int) ≤ k := by omega
      by_cases hkm : k < es2.length
      rotate_left
      · obtain rfl : k = es2.length := by omega
        have HTK := Lib.hid (show hasT x (es2.take es2.length) = true by rw [List.take_length]; exact hasT_yes HIN.out)
        rw [HTK.out]
        clear hkm
        go_wp2
        go_roundw
        case rel => exact ⟨p + 1, by omega, by go_num, ⟨HB.out⟩⟩
        case measure => simp [intOf]; omega
      have b4 : (k : Int) < es2.length := by omega
      have HAT := Lib.hid (hasT_step (x := x) hkm)
      cases hh : hasT x (es2.take k)
      rotate_left
      · have HNX := Lib.hid (HAT.out.trans (by rw [hh]; rfl : _ = true))
        clear hh HAT hkm
        go_wp2_with fail
        go_big_quiet (fail)
        go_wp2
        go_roundw
        case rel => exact ⟨k + 1, by omega, by go_num, by rw [HNX.out], ⟨pw_below_drewN HB.out _⟩⟩
        case measure => simp [intOf]; omega
      obtain ⟨ad9, A9, c9, hA9, k0, kl0, kf0⟩ := at_row HCY.out (k : Int) (by omega) (by omega)
      subst hA9
      rw [Int.toNat_natCast] at k0
      replace k0 := kept_cell HB.out k0
      have HNX := Lib.hid (HAT.out.trans (by rw [hh, Bool.false_or, decide_eq_decide]; exact eq_comm : _ = decide (x = rdRow es2 k)))
      have HSM := Lib.hid (fun (W : World) (hb : Below wr.heap.size wr W) => tab2_calls A8 A9 c8 c9 x (rdRow es2 k) W (Kd.C_below (Kd.C_below HX1.out HB.out) hb) (Kd.C_below (Kd.C_below kf0 HB.out) hb))
      rw [← HNX.out] at HSM
      clear kf0 kl0 hh HAT
      generalize rdRow es2 k = y at *
      have HKP := Lib.hid (show ∀ W W2 : World, (W.cell? (ad9.add k) = some (.slice A9 y.length c9) ∧ W.cell? (ad.add p) = some (.slice A8 x.length c8) ∧ Aside0 (Below wr.heap.size wr W)) → Below W.heap.size W W2 → (W2.cell? (ad9.add k) = some (.slice A9 y.length c9) ∧ W2.cell? (ad.add p) = some (.slice A8 x.length c8) ∧ Aside0 (Below wr.heap.size wr W2)) from fun W W2 h hb => ⟨kept_cell hb h.1, kept_cell hb h.2.1, ⟨below_then h.2.2.out h.2.2.out.size hb⟩⟩)
      have hs0 : wr.cell? (ad9.add k) = some (.slice A9 y.length c9) ∧ wr.cell? (ad.add p) = some (.slice A8 x.length c8) ∧ Aside0 (Below wr.heap.size wr wr) := ⟨k0, h0, ⟨Below.refl _ _⟩⟩
      obtain ⟨q1, hq1⟩ : ∃ q1, q1 = hasT x (es2.take (k + 1)) := ⟨_, rfl⟩
      have HSQ := Lib.hid hq1
      rw [← hq1] at HSM
      clear hq1 k0 h0
      go_wp2_with fail
      go_region_held3 (fun W => W.cell? (ad9.add k) = some (.slice A9 y.length c9) ∧ W.cell? (ad.add p) = some (.slice A8 x.length c8) ∧ Aside0 (Below wr.heap.size wr W))
        (first | assumption | exact HKP.out _ _ (by assumption) (below_drew (Below.refl _ _)) | go_keep)
        (first | (go_at_call 20; (with_reducible refine (HSM.out _ ?hbx).mono ?_); (case hbx => exact (by assumption : _ ∧ _ ∧ Aside0 (Below wr.heap.size wr _)).2.2.out); rintro E w2 ⟨rfl, hb2⟩; have hs2 := HKP.out _ _ (by assumption) hb2))
      all_goals
        go_wp2
        go_roundw
        case rel => exact ⟨k + 1, by omega, by go_num, by rw [HSQ.out], ⟨below_then HB.out HB.out.size (by assumption : _ ∧ _ ∧ Aside0 (Below wr.heap.size wr _)).2.2.out⟩⟩
        case measure => simp [intOf]; omega

end Go.Proofs.Ytadhfedbgeenlaa.H
