/- The law HistoryKnown. -/
import Derived.Test.YtadhfedbgeenlaaLNa
namespace Go.Proofs.Ytadhfedbgeenlaa.H
open Go.RowKit Go.Proofs.YtadhfedbgeenlaaW.PrintWords Go.Proofs.YtadhfedbgeenlaaW.PrintLast Go.Proofs.YtadhfedbgeenlaaW.PrintMore
set_option linter.unusedVariables false
set_option linter.unusedSimpArgs false
open Aw

set_option maxHeartbeats 4000000 in
set_option maxRecDepth 100000 in
theorem lawKnown_calls (raw ops : List S58) (A0 A1 : Option Addr) (c0 c1 : Nat) (which : Int) (w : World) (hr : Kd.C k58 w A0 raw.length raw) (ho : Kd.C k58 w A1 ops.length ops) (hir : ∀ x ∈ raw, InR x) (hio : ∀ x ∈ ops, InR x) (h_which : InI which) :
    Calls Try.prog 5 #[.slice A0 raw.length c0, .slice A1 ops.length c1, .int .i64 which] w fun e w' => e = .returned (.bool true) ∧ Below w.heap.size w w' := by
  have HTB := Lib.hid (fun (W : World) (hb : Below w.heap.size w W) => table_calls raw A0 c0 W (Kd.C_below hr hb) hir)
  have HEV := Lib.hid (fun (t : List S54) (A : Option Addr) (c : Nat) (W : World) (hb : Below w.heap.size w W) (ht : Kd.C k54 W A t.length t) (hp : PlainT t) (hlen : t.length ≤ 1000) (hct : t.length ≤ c) => events_calls t ops ([] : List Int) A A1 none c c1 0 W ht (Kd.C_below ho hb) ((Kd.N_reads' (Kd.N_nil (Kd.int .i64) 3 W 0 (fun _ => True))).2.2) hio (fun x hx => by simp at hx) hp hlen hct)
  clear hr ho hir hio
  go_enter Try.func5, Try.ntmps5
  go_wp2_with fail
  refine (awake_calls w).mono ?_
  rintro E W1 ⟨rfl, hb⟩
  have HB1 := Lib.hid hb
  clear hb
  go_wp2_with fail
  refine (HTB.out W1 HB1.out).mono ?_
  rintro E W2 ⟨t, A3, c3, rfl, hT⟩
  have HB2 := Lib.hid (below_then HB1.out HB1.out.size hT.2.1)
  have HT := Lib.hid (Kd.N_reads' hT.1).2
  have HTO := Lib.hid hT.2.2
  have HTL := Lib.hid ((tabOk_iff.1 hT.2.2.1).2.2)
  clear hT HTB HB1
  go_wp2_with fail
  refine (HEV.out t A3 c3 W2 HB2.out HT.out.2 HTO.out.2 (by have := HTL.out; omega) HT.out.1).mono ?_
  rintro E W3 ⟨l, z, kn, un, A4, c4, A5, c5, rfl, hP, hW⟩
  have HP := Lib.hid hP
  have HW := Lib.hid hW
  have HLN := Lib.hid (Nat.le_trans (Nat.le_of_eq hP.2.1) hP.2.2.1)
  have HUN := Lib.hid (Nat.le_trans (Nat.le_of_eq hP.2.2.2.1) hP.2.2.2.2.1)
  clear hP hW HEV
  have hu0 : un = 0 := HP.out.2.2.2.2.2.1 rfl
  have HAK := Lib.hid (all_known (l := l) (by rw [HP.out.2.2.2.1]; exact hu0))
  have HRN := Lib.hid HP.out.1
  have hone : endsT t l = [z] := by unfold endsT; rw [run_one HRN.out HAK.out]; rfl
  have HNE := Lib.hid HW.out.2.2.1
  have HB23 := Lib.hid HW.out.2.2.2
  have HZC := Lib.hid (Kd.F_now HW.out.1)
  have HZL := Lib.hid HW.out.2.1
  have HMR := Lib.hid (Kd.N_reads' HW.out.2.2.1).2
  have HBW := Lib.hid (below_then HB2.out HB2.out.size HB23.out)
  have hen : Calls Try.prog 13 #[.slice A3 t.length c3, .slice A5 l.length c5] W3 fun e w' => Below W3.heap.size W3 w' ∧ ∃ A' c', e = .returned (.tuple #[.slice A' 1 c', .int .i64 0]) ∧ Kd.C (Kd.slice 54 k54) w' A' 1 [z] := by
    have h := ends_calls t l A3 c3 A5 c5 W3 (Kd.C_below HT.out.2 HB23.out) HMR.out.2 HMR.out.1 HTO.out.2 (by have := HTL.out; omega)
    rw [endsE_ok HTO.out.1 HLN.out (by have := HUN.out; omega), hone] at h
    exact h
  have HEN := Lib.hid hen
  clear hen hu0 hone HW HP
  go_wp2_with fail
  refine HEN.out.mono ?_
  rintro E W4 ⟨hb, A6, c6, rfl, hC⟩
  obtain ⟨ad, B1, d1, rfl, h0, hl0, hC0⟩ := at_row hC 0 (by decide) (by decide)
  have h0 : W4.cell? (ad.add 0) = some (.slice B1 z.length d1) := h0
  rw [show ad.add 0 = ad by simp [Addr.add]] at h0
  have HSM := Lib.hid (show Calls Try.prog 20 #[.slice B1 z.length d1, .slice A4 z.length c4] W4 fun e w' => e = .returned (.bool true) ∧ Below W4.heap.size W4 w' by
    have h := tab2_calls B1 A4 d1 c4 z z W4 hC0 (Kd.C_below HZC.out hb)
    rw [decide_eq_true rfl] at h
    exact h)
  have HB34 := Lib.hid hb
  clear hb hC hl0 hC0 HEN
  go_wp2_with fail
  refine HSM.out.mono ?_
  rintro E W5 ⟨rfl, hb⟩
  have HB35 := Lib.hid (below_then HB34.out HB34.out.size hb)
  have HNE5 := Lib.hid (Kd.N_below HNE.out HB35.out)
  have HB25 := Lib.hid (below_then HB23.out HB23.out.size HB35.out)
  have HB5 := Lib.hid (below_then HBW.out HBW.out.size HB35.out)
  clear h0 hb HSM HB34 HNE
  by_cases hl : l.length = 0
  · have y1 : ((l.length : Int) == 0) = true := by rw [hl]; rfl
    have y2 : (l.length == 0) = true := by rw [hl]; rfl
    rw [hl]
    clear hl
    go_wp2
    go_ret
    exact ⟨rfl, HB5.out⟩
  have y0 : 0 < l.length := by omega
  have y1 : ((l.length : Int) == 0) = false := by rw [beq_eq_false_iff_ne]; omega
  have y2 : (l.length == 0) = false := by rw [beq_eq_false_iff_ne]; omega
  obtain ⟨g, hA, hg⟩ := NE_form HNE5.out y0
  subst hA
  have HG := Lib.hid hg
  have HPB := Lib.hid (pickI_bound which l.length (by omega))
  have HPC := Lib.hid (fun w => pick21_calls which l.length h_which (by omega) (by have := HLN.out; omega) w)
  generalize hi0 : pickI which l.length = i0 at *
  obtain ⟨i, rfl⟩ : ∃ i : Nat, i0 = i := ⟨i0.toNat, by have := HPB.out; omega⟩
  clear hi0
  have HI := Lib.hid (show i < l.length by have := HPB.out; omega)
  obtain ⟨hc, hf⟩ := atRev HNE5.out i HI.out
  have HS := Lib.hid (show Kd.N k38 38 (W5.setCell ⟨g, i * 12 + 8 + 1, none⟩ (.int .i64 (wrap64 ((rd_T38 l i).f2.f1 + 1)))) W2.heap.size (fun j => W2.heap.size ≤ j) (.slice (some ⟨g, 0, none⟩) l.length c5) (l.set i (withRev (rd_T38 l i) (wrap64 ((rd_T38 l i).f2.f1 + 1)))) from setRev HNE5.out i HI.out _)
  have hgt := rdE_get HI.out
  have HKO := Lib.hid (known_other (e' := withRev (rd_T38 l i) (wrap64 ((rd_T38 l i).f2.f1 + 1))) HRN.out HAK.out hgt rfl (show (rd_T38 l i).f1 = true from HAK.out _ (List.mem_of_getElem? hgt)) (fun h => wrap_ne _ (congrArg (·.f1) h)))
  have HCT := Lib.hid (count_same (e' := withRev (rd_T38 l i) (wrap64 ((rd_T38 l i).f2.f1 + 1))) hgt rfl)
  have HLL := Lib.hid (show (l.set i (withRev (rd_T38 l i) (wrap64 ((rd_T38 l i).f2.f1 + 1)))).length = l.length from List.length_set)
  generalize l.set i (withRev (rd_T38 l i) (wrap64 ((rd_T38 l i).f2.f1 + 1))) = m at *
  generalize (rd_T38 l i).f2.f1 = rv at *
  have x1 : (0 : Int) ≤ i := by omega
  have x2 : (i : Int) < l.length := by have := HI.out; omega
  clear hl hg y0 hgt
  go_wp2_with fail
  refine (HPC.out _).mono ?_
  rintro E W6 ⟨rfl, rfl⟩
  have HB2S := Lib.hid (HB25.out.setCell (p := ⟨g, i * 12 + 8 + 1, none⟩) HG.out (.int .i64 (wrap64 (rv + 1))))
  have HBS := Lib.hid (HB5.out.setCell (p := ⟨g, i * 12 + 8 + 1, none⟩) (Nat.le_trans HB2.out.size HG.out) (.int .i64 (wrap64 (rv + 1))))
  go_upto_region 11 with (fail)
  generalize W5.setCell ⟨g, i * 12 + 8 + 1, none⟩ (.int .i64 (wrap64 (rv + 1))) = W6 at *
  clear hc hf HNE5
  have HTC := Lib.hid (Kd.C_below HT.out.2 HB2S.out)
  have HMS := Lib.hid (Kd.N_reads' HS.out).2
  have hm16 : m.length ≤ 16 := by rw [HLL.out]; exact HLN.out
  have hmu : m.countP (fun e => !e.f1) ≤ 8 := by rw [HCT.out]; have := HUN.out; omega
  have hmc : m.length ≤ c5 := by rw [HLL.out]; exact HMS.out.1
  have HEN := Lib.hid (show Calls Try.prog 13 #[.slice A3 t.length c3, .slice (some ⟨g, 0, none⟩) l.length c5] W6 fun e w' => Below W6.heap.size W6 w' ∧ ∃ A' c', e = .returned (.tuple #[.slice A' 0 c', .int .i64 0]) by
    have h := ends_calls t m A3 c3 (some ⟨g, 0, none⟩) c5 W6 HTC.out HMS.out.2 hmc HTO.out.2 (by have := HTL.out; omega)
    rw [endsE_ok HTO.out.1 hm16 hmu, HKO.out.2, HLL.out] at h
    exact h.mono fun _ _ ⟨hb, A', c', h2, h3⟩ => ⟨hb, A', c', h2⟩)
  have HFC := Lib.hid (show ∀ W, Below W6.heap.size W6 W → Calls Try.prog 16 #[.slice A3 t.length c3, .slice (some ⟨g, 0, none⟩) l.length c5] W fun e w' => e = .returned (.int .i64 i) ∧ Below W.heap.size W w' from fun W hb => by
    have h := first_calls t m A3 c3 (some ⟨g, 0, none⟩) c5 W (Kd.C_below HTC.out hb) (Kd.C_below HMS.out.2 hb) hmc HTO.out.2 (by have := HTL.out; omega)
    rw [firstE_ok HTO.out.1 hm16 hmu, HKO.out.1, HLL.out] at h
    exact h)
  clear hm16 hmu hmc
  go_wp2_with fail
  refine HEN.out.mono ?_
  rintro E W7 ⟨hb, A7, c7, rfl⟩
  have HB7 := Lib.hid (below_then HBS.out HBS.out.size hb)
  have HF7 := Lib.hid (HFC.out W7 hb)
  clear hb HEN HFC
  go_wp2_with fail
  refine HF7.out.mono ?_
  rintro E W8 ⟨rfl, hb⟩
  have HB8 := Lib.hid (below_then HB7.out HB7.out.size hb)
  clear hb HF7
  go_wp2
  go_ret
  exact ⟨rfl, HB8.out⟩

end Go.Proofs.Ytadhfedbgeenlaa.H
