/- The law HistoryBegins. -/
import Derived.Test.YtadhfedbgeenlaaQ10
namespace Go.Proofs.Ytadhfedbgeenlaa.H
open Go.RowKit Go.Proofs.YtadhfedbgeenlaaW.PrintWords Go.Proofs.YtadhfedbgeenlaaW.PrintLast Go.Proofs.YtadhfedbgeenlaaW.PrintMore
set_option linter.unusedVariables false
set_option linter.unusedSimpArgs false
open Aw
theorem begins_pair {t z : List Rec} {l m : List EvT} {i : Nat} {e : EvT} (ht : tabOk t = true) (hl : l.length ≤ 16) (hu : l.countP (fun e => !e.f1) ≤ 5) (hi : l[i]? = some e) (r : Int) : (l.set i (withRev e r)).length = l.length ∧ (l.set i (withRev e r)).countP (fun e => !e.f1) ≤ 5 :=
  ⟨List.length_set, by rw [count_same (e' := withRev e r) hi rfl]; exact hu⟩

set_option maxHeartbeats 4000000 in
set_option maxRecDepth 100000 in
theorem begins_calls (raw ops : List S58) (known : List Int) (A0 A1 A2 : Option Addr) (c0 c1 c2 : Nat) (wrong : Int) (wh : Int) (w : World) (hr : Kd.C k58 w A0 raw.length raw) (ho : Kd.C k58 w A1 ops.length ops) (hk : Kd.C (Kd.int .i64) w A2 known.length known) (hir : ∀ x ∈ raw, InR x) (hio : ∀ x ∈ ops, InR x) (hik : ∀ x ∈ known, InI x) (h_wrong : InI wrong) (h_wh : InI wh) :
    Calls Try.prog 6 #[.slice A0 raw.length c0, .slice A1 ops.length c1, .slice A2 known.length c2, .int .i64 wrong, .int .i64 wh] w fun e w' => e = .returned (.bool true) ∧ Below w.heap.size w w' := by
  have HTB := Lib.hid (fun (W : World) (hb : Below w.heap.size w W) => table_calls raw A0 c0 W (Kd.C_below hr hb) hir)
  have HEV := Lib.hid (fun (t : List S54) (A : Option Addr) (c : Nat) (W : World) (hb : Below w.heap.size w W) (ht : Kd.C k54 W A t.length t) (hp : PlainT t) (hlen : t.length ≤ 1000) (hct : t.length ≤ c) => events_calls t ops known A A1 A2 c c1 c2 W ht (Kd.C_below ho hb) (Kd.C_below hk hb) hio hik hp hlen hct)
  clear hr ho hir hio hk hik
  go_enter Try.func6, Try.ntmps6
  go_wp2_with fail
  refine (awake_calls w).mono ?_
  rintro E W1 ⟨rfl, hb⟩
  have HB1 := Lib.hid hb
  clear hb
  go_wp2_with fail
  refine (HTB.out W1 HB1.out).mono ?_
  rintro E W2 ⟨t, A3, c3, rfl, hT⟩
  have HB2 := Lib.hid (below_then HB1.out HB1.out.size hT.2.1)
  have HT := Lib.hid (Kd.N_reads' hT.1).2
  have HTO := Lib.hid hT.2.2
  have HTL := Lib.hid ((tabOk_iff.1 hT.2.2.1).2.2)
  clear hT HTB HB1
  go_wp2_with fail
  refine (HEV.out t A3 c3 W2 HB2.out HT.out.2 HTO.out.2 (by have := HTL.out; omega) HT.out.1).mono ?_
  rintro E W3 ⟨l, z, kn, un, A4, c4, A5, c5, rfl, hP, hW⟩
  have HP := Lib.hid hP
  have HW := Lib.hid hW
  have HLN := Lib.hid (Nat.le_trans (Nat.le_of_eq hP.2.1) hP.2.2.1)
  have HUN := Lib.hid (Nat.le_trans (Nat.le_of_eq hP.2.2.2.1) hP.2.2.2.2.1)
  clear hP hW HEV
  go_upto_if 31 with (fail)
  go_cut [13] (fun v13 W => ∃ m : List EvT, v13 = .slice A5 m.length c5 ∧ Aside0 (NE W W2.heap.size (.slice A5 m.length c5) m ∧ Below W2.heap.size W2 W ∧ m.length ≤ 16 ∧ m.countP (fun e => !e.f1) ≤ 5))
  case first =>
    by_cases hl : l.length = 0
    · have y1 : decide ((0 : Int) < l.length) = false := decide_eq_false (by omega)
      have y2 : decide (0 < l.length) = false := decide_eq_false (by omega)
      rw [y2]
      clear hl
      go_wp2
      go_meet
      case rel => exact ⟨l, rfl, ⟨HW.out.2.2.1, HW.out.2.2.2, HLN.out, HUN.out⟩⟩
    have y0 : 0 < l.length := by omega
    have y1 : decide ((0 : Int) < l.length) = true := decide_eq_true (by omega)
    have y2 : decide (0 < l.length) = true := decide_eq_true y0
    obtain ⟨g, hA, hg⟩ := NE_form HW.out.2.2.1 y0
    subst hA
    have HG := Lib.hid hg
    have HPB := Lib.hid (pickI_bound wrong l.length (by omega))
    have HPC := Lib.hid (fun w => pick21_calls wrong l.length h_wrong (by omega) (by have := HLN.out; omega) w)
    have HQB := Lib.hid (pickI_bound wh 3 (by decide))
    have HQC := Lib.hid (fun w => pick21_calls wh 3 h_wh (by decide) (by decide) w)
    generalize pickI wh 3 = q at *
    generalize hi0 : pickI wrong l.length = i0 at *
    obtain ⟨i, rfl⟩ : ∃ i : Nat, i0 = i := ⟨i0.toNat, by have := HPB.out; omega⟩
    have HI := Lib.hid (show i < l.length by have := HPB.out; omega)
    have HS := Lib.hid (setRev HW.out.2.2.1 i HI.out (1 + q))
    have HSP := Lib.hid (begins_pair (z := z) (m := l) HTO.out.1 HLN.out HUN.out (rdE_get HI.out) (1 + q))
    obtain ⟨hc, hf⟩ := atRev HW.out.2.2.1 i HI.out
    have x1 : (0 : Int) ≤ i := by omega
    have x2 : (i : Int) < l.length := by have := HI.out; omega
    have x3 : IntKind.i64.wrap (1 + q) = 1 + q := IntWalk.i64_in _ (by have := HQB.out; constructor <;> omega)
    clear hl hg y0 hi0
    rw [y2]
    go_wp2_with fail
    refine (HPC.out _).mono ?_
    rintro E W4 ⟨rfl, rfl⟩
    go_wp2_with fail
    refine (HQC.out _).mono ?_
    rintro E W4 ⟨rfl, rfl⟩
    go_wp2
    go_meet
    case rel => exact ⟨_, by rw [HSP.out.1], ⟨by rw [HSP.out.1]; exact HS.out, HW.out.2.2.2.setCell HG.out _, by rw [HSP.out.1]; exact HLN.out, HSP.out.2⟩⟩
  obtain ⟨m, rfl, HM⟩ := hcut
  clear HW HP HLN HUN
  have HMR := Lib.hid (Kd.N_reads' HM.out.1).2
  have HBW := Lib.hid (below_then HB2.out HB2.out.size HM.out.2.1)
  have HTC := Lib.hid (Kd.C_below HT.out.2 HM.out.2.1)
  have HML := Lib.hid HM.out.2.2
  clear HM HT
  have hfc := first_calls t m A3 c3 A5 c5 wc HTC.out HMR.out.2 HMR.out.1 HTO.out.2 (by have := HTL.out; omega)
  rw [firstE_ok HTO.out.1 HML.out.1 (by have := HML.out.2; omega)] at hfc
  have HIFF := Lib.hid (firstT_iff t m m.length)
  have HLE := Lib.hid (firstT_le t m m.length)
  generalize firstT t m m.length = fn at *
  have HFC := Lib.hid hfc
  clear hfc
  go_wp2_with fail
  refine HFC.out.mono ?_
  rintro E W4 ⟨rfl, hb⟩
  have HB4 := Lib.hid (below_then HBW.out HBW.out.size hb)
  have HTC4 := Lib.hid (Kd.C_below HTC.out hb)
  have HMC4 := Lib.hid (Kd.C_below HMR.out.2 hb)
  clear hb HFC HTC HBW
  have x3 : IntKind.i64.wrap ((m.length : Int) + 1) = (m.length : Int) + 1 := IntWalk.i64_in _ (by have := HML.out; constructor <;> omega)
  have HPB := Lib.hid (pickI_bound wh (m.length + 1) (by omega))
  have HPC := Lib.hid (fun w => pick21_calls wh (m.length + 1) h_wh (by omega) (by have := HML.out; omega) w)
  generalize hk0 : pickI wh (m.length + 1) = k0 at *
  obtain ⟨k, rfl⟩ : ∃ k : Nat, k0 = k := ⟨k0.toNat, by have := HPB.out; omega⟩
  clear hk0
  have hk : k ≤ m.length := by have := HPB.out; omega
  have hkc : k ≤ c5 := Nat.le_trans hk HMR.out.1
  have hlt : (m.take k).length = k := by rw [List.length_take]; omega
  have hen := ends_calls t (m.take k) A3 c3 A5 c5 W4 HTC4.out (Kd.C_take HMC4.out hk) (by rw [hlt]; exact hkc) HTO.out.2 (by have := HTL.out; omega)
  rw [endsE_ok HTO.out.1 (by rw [hlt]; have := HML.out; omega) (Nat.le_trans (count_take m k) (by have := HML.out.2; omega)), hlt] at hen
  have HKF := Lib.hid (HIFF.out k hk)
  have HEN := Lib.hid hen
  clear hen hlt HIFF
  generalize endsT t (m.take k) = es at *
  go_wp2_with fail
  refine (HPC.out _).mono ?_
  rintro E W5 ⟨rfl, rfl⟩
  go_wp2_with fail
  refine HEN.out.mono ?_
  rintro E W6 ⟨hb, A6, c6, rfl, hC⟩
  have HB6 := Lib.hid (below_then HB4.out HB4.out.size hb)
  have hml2 := hC.2.1
  have f1 : (fn : Int) ≤ m.length := by have := HLE.out; omega
  have f2 : (0 : Int) ≤ fn := by omega
  clear hb hC HEN HPC HMC4 HTC4 hk hkc
  by_cases he : es = []
  · have hel : es.length = 0 := by rw [he]; rfl
    have hkf : ¬ (k : Int) ≤ fn := fun h => (HKF.out.1 (by omega)) he
    have hkf2 : decide (k ≤ fn) = false := decide_eq_false (by omega)
    rw [hel]
    clear he hel HKF
    go_wp2
    go_ret
    exact ⟨rfl, HB6.out⟩
  have hel : 0 < es.length := List.length_pos_iff.2 he
  have hel2 : (0 : Int) < es.length := by omega
  have hel3 : decide (0 < es.length) = true := decide_eq_true hel
  have hkf : (k : Int) ≤ fn := by have := HKF.out.2 he; omega
  have hkf2 : decide (k ≤ fn) = true := decide_eq_true (by omega)
  clear he HKF
  go_wp2
  go_ret
  exact ⟨rfl, HB6.out⟩

end Go.Proofs.Ytadhfedbgeenlaa.H
