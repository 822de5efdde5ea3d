/- The law HistoryTells. -/
import Derived.Test.YtadhfedbgeenlaaLNa
import Derived.Test.YtadhfedbgeenlaaQ8
namespace Go.Proofs.Ytadhfedbgeenlaa.H
open Go.RowKit Go.Proofs.YtadhfedbgeenlaaW.PrintWords Go.Proofs.YtadhfedbgeenlaaW.PrintLast Go.Proofs.YtadhfedbgeenlaaW.PrintMore
set_option linter.unusedVariables false
set_option linter.unusedSimpArgs false
open Aw

set_option maxHeartbeats 4000000 in
set_option maxRecDepth 100000 in
theorem tells_calls (raw ops : List S58) (known : List Int) (A0 A1 A2 : Option Addr) (c0 c1 c2 : Nat) (wrong : Int) (av : List EvT) (An : Option Addr) (cn : Nat) (w : World) (hr : Kd.C k58 w A0 raw.length raw) (ho : Kd.C k58 w A1 ops.length ops) (hk : Kd.C (Kd.int .i64) w A2 known.length known) (hir : ∀ x ∈ raw, InR x) (hio : ∀ x ∈ ops, InR x) (hik : ∀ x ∈ known, InI x) (h_wrong : InI wrong) (hn : Kd.C k38 w An av.length av) (hcn : av.length ≤ cn) :
    Calls Try.prog 3 #[.slice A0 raw.length c0, .slice A1 ops.length c1, .slice A2 known.length c2, .int .i64 wrong, .slice An av.length cn] w fun e w' => e = .returned (.bool true) ∧ Below w.heap.size w w' := by
  have HAV := Lib.hid hn
  have HAC := Lib.hid hcn
  have hmn : av.length ≤ 9223372036854775807 := hn.2.1
  clear hn hcn
  have HTB := Lib.hid (fun (W : World) (hb : Below w.heap.size w W) => table_calls raw A0 c0 W (Kd.C_below hr hb) hir)
  have HEV := Lib.hid (fun (t : List S54) (A : Option Addr) (c : Nat) (W : World) (hb : Below w.heap.size w W) (ht : Kd.C k54 W A t.length t) (hp : PlainT t) (hlen : t.length ≤ 1000) (hct : t.length ≤ c) => events_calls t ops known A A1 A2 c c1 c2 W ht (Kd.C_below ho hb) (Kd.C_below hk hb) hio hik hp hlen hct)
  clear hr ho hir hio hk hik
  go_enter Try.func3, Try.ntmps3
  go_wp2_with fail
  refine (awake_calls w).mono ?_
  rintro E W1 ⟨rfl, hb⟩
  have HB1 := Lib.hid hb
  clear hb
  go_wp2_with fail
  refine (HTB.out W1 HB1.out).mono ?_
  rintro E W2 ⟨t, A3, c3, rfl, hT⟩
  have HB2 := Lib.hid (below_then HB1.out HB1.out.size hT.2.1)
  have HT := Lib.hid (Kd.N_reads' hT.1).2
  have HTO := Lib.hid hT.2.2
  have HTL := Lib.hid ((tabOk_iff.1 hT.2.2.1).2.2)
  clear hT HTB HB1
  go_wp2_with fail
  refine (HEV.out t A3 c3 W2 HB2.out HT.out.2 HTO.out.2 (by have := HTL.out; omega) HT.out.1).mono ?_
  rintro E W3 ⟨l, z, kn, un, A4, c4, A5, c5, rfl, hP, hW⟩
  have HP := Lib.hid hP
  have HW := Lib.hid hW
  have HLN := Lib.hid (Nat.le_trans (Nat.le_of_eq hP.2.1) hP.2.2.1)
  have HUN := Lib.hid (Nat.le_trans (Nat.le_of_eq hP.2.2.2.1) hP.2.2.2.2.1)
  clear hP hW HEV
  have HB23 := Lib.hid HW.out.2.2.2
  have HNE := Lib.hid HW.out.2.2.1
  have HMR := Lib.hid (Kd.N_reads' HW.out.2.2.1).2
  have HB3 := Lib.hid (below_then HB2.out HB2.out.size HB23.out)
  have HTC := Lib.hid (Kd.C_below HT.out.2 HB23.out)
  have HCT := Lib.hid HT.out.1
  clear HW HP HT HUN HB2
  go_upto_region 4 with (fail)
  go_cut [15] (fun v15 W => ∃ (Am : Option Addr) (cm : Nat), v15 = .slice Am l.length cm ∧ Aside0 (Kd.N k38 38 W W3.heap.size (fun j => W2.heap.size ≤ j) (.slice Am l.length cm) l ∧ Below W3.heap.size W3 W))
  case first =>
    go_wp2_with (at_builtin; refine Kd.N_append_rows k38 (w0 := W3) W3.heap.size rfl (.const (.slice none 0 0)) (.tmp 33) 24 38 (.agg #[(.int .i64 0), (.string ⟨#[]⟩), (.string ⟨#[]⟩), (.int .i64 0), (.string ⟨#[]⟩), (.int .i64 0), (.string ⟨#[]⟩), (.bool false), (.int .i64 0), (.int .i64 0), (.string ⟨#[]⟩), (.slice none 0 0)]) 152 rfl Try.underlying24 info38 rfl (by decide) (by omega) (.slice none 0 0) [] l _ _ _ (fun j => W2.heap.size ≤ j) (fun j => W2.heap.size ≤ j) rfl rfl ?aO ?aR ?aK ?aH ?aB ?aS ?aL ?_; (case aO => exact Kd.N_nil _ _ _ _ _); (case aR => exact Kd.N_F HNE.out); (case aK => exact (fun j hj => ⟨hj, by simp [Value.ownBlock]⟩)); (case aH => exact (fun k hk => Nat.le_trans HB23.out.size hk)); (case aB => exact Below.refl _ _); (case aS => exact Nat.le_refl _); (case aL => have := HLN.out; simp; omega); intro v w2 ho hb hg hat)
    obtain ⟨Am, cm, he⟩ := Kd.N_slice ho
    subst he
    have HO := Lib.hid (And.intro ho hb)
    clear ho hb hg hat
    go_meet
    case rel => exact ⟨Am, cm, rfl, ⟨HO.out⟩⟩
  obtain ⟨Am, cm, rfl, HM⟩ := hcut
  have HN := Lib.hid HM.out.1
  have HB4 := Lib.hid HM.out.2
  clear HM HNE
  go_upto_if 37 with (fail)
  go_cut [15] (fun v15 W => ∃ m : List EvT, v15 = .slice Am m.length cm ∧ Aside0 (Kd.N k38 38 W W3.heap.size (fun j => W2.heap.size ≤ j) (.slice Am m.length cm) m ∧ Below W3.heap.size W3 W))
  case first =>
    by_cases hl : l.length = 0
    · have y2 : decide (0 < l.length) = false := decide_eq_false (by omega)
      rw [y2]
      clear hl
      go_wp2
      go_meet
      case rel => exact ⟨l, rfl, ⟨HN.out, HB4.out⟩⟩
    have y0 : 0 < l.length := by omega
    have y2 : decide (0 < l.length) = true := decide_eq_true y0
    obtain ⟨g, hA, hg⟩ := NE_form HN.out y0
    subst hA
    have HG := Lib.hid hg
    have HPB := Lib.hid (pickI_bound wrong l.length (by omega))
    have HPC := Lib.hid (fun w => pick21_calls wrong l.length h_wrong (by omega) (by have := HLN.out; omega) w)
    have HQC := Lib.hid (fun w => pick21_calls wrong 4 h_wrong (by decide) (by decide) w)
    generalize pickI wrong 4 = q at *
    generalize hi0 : pickI wrong l.length = i0 at *
    obtain ⟨i, rfl⟩ : ∃ i : Nat, i0 = i := ⟨i0.toNat, by have := HPB.out; omega⟩
    have HI := Lib.hid (show i < l.length by have := HPB.out; omega)
    have HS := Lib.hid (setRev HN.out i HI.out q)
    have HLL := Lib.hid (show (l.set i (withRev (rd_T38 l i) q)).length = l.length from List.length_set)
    obtain ⟨hc, hf⟩ := atRev HN.out i HI.out
    have x1 : (0 : Int) ≤ i := by omega
    have x2 : (i : Int) < l.length := by have := HI.out; omega
    clear hl hg y0 hi0
    rw [y2]
    go_wp2_with fail
    refine (HPC.out _).mono ?_
    rintro E W4 ⟨rfl, rfl⟩
    go_wp2_with fail
    refine (HQC.out _).mono ?_
    rintro E W4 ⟨rfl, rfl⟩
    go_wp2
    go_meet
    case rel => exact ⟨_, by rw [HLL.out], ⟨by rw [HLL.out]; exact HS.out, HB4.out.setCell HG.out _⟩⟩
  obtain ⟨m, rfl, HM⟩ := hcut
  clear HN HB4
  have HMM := Lib.hid (Kd.N_reads' HM.out.1).2
  have HBC := Lib.hid HM.out.2
  clear HM
  generalize hwm : wc = WM at *
  clear hwm
  go_upto_if 51 with (fail)
  go_cut [16] (fun v16 W => ∃ x : List EvT, v16 = .slice An x.length cn ∧ Aside0 (W = WM ∧ Kd.C k38 w An x.length x ∧ x.length ≤ cn))
  case first =>
    by_cases hx : 20 < av.length
    · have y1 : (20 : Int) < av.length := by omega
      have y2 : decide ((20 : Int) < av.length) = true := decide_eq_true y1
      have y3 : 20 ≤ cn := by have := HAC.out; omega
      have HL20 := Lib.hid (show (av.take 20).length = 20 by rw [List.length_take]; omega)
      have HT20 := Lib.hid (Kd.C_take HAV.out (Nat.le_of_lt hx))
      rw [y2]
      clear hx
      go_wp2
      go_meet
      case rel => exact ⟨av.take 20, by rw [HL20.out], ⟨rfl, HT20.out, by rw [HL20.out]; exact y3⟩⟩
    · have y1 : ¬ (20 : Int) < av.length := by omega
      have y2 : decide ((20 : Int) < av.length) = false := decide_eq_false y1
      rw [y2]
      clear hx
      go_wp2
      go_meet
      case rel => exact ⟨av, rfl, ⟨rfl, HAV.out, HAC.out⟩⟩
  obtain ⟨x, rfl, HX⟩ := hcut
  have hw := HX.out.1
  rw [hw]
  clear hw
  have HXC := Lib.hid HX.out.2
  clear HX
  have HBM := Lib.hid (below_then HB3.out HB3.out.size HBC.out)
  generalize hWD : WM.alloc (.cells #[.slice A5 l.length c5, .slice Am m.length cm, .slice An x.length cn] 24) = WD
  have HGD := Lib.hid (show WD.heap[WM.heap.size]? = some (.cells #[.slice A5 l.length c5, .slice Am m.length cm, .slice An x.length cn] 24 (0, 0)) by rw [← hWD]; exact new_at rfl _)
  have HBD := Lib.hid (show Below WM.heap.size WM WD by rw [← hWD]; exact below_alloc (Below.refl _ _) _)
  have HWD := Lib.hid hWD
  clear hWD
  go_wp2
  rw [HWD.out]
  clear HWD
  have HXD := Lib.hid (show ∀ i : Nat, i < 3 → ∃ (y : List EvT) (Ay : Option Addr) (cy : Nat), WD.cell? ⟨WM.heap.size, i, none⟩ = some (.slice Ay y.length cy) ∧ Kd.C k38 WD Ay y.length y ∧ y.length ≤ cy from fun i hi => by
    rcases i with _ | _ | _ | i
    · exact ⟨l, A5, c5, (blk_cell HGD.out 0).trans rfl, Kd.C_below (Kd.C_below HMR.out.2 HBC.out) HBD.out, HMR.out.1⟩
    · exact ⟨m, Am, cm, (blk_cell HGD.out 1).trans rfl, Kd.C_below HMM.out.2 HBD.out, HMM.out.1⟩
    · exact ⟨x, An, cn, (blk_cell HGD.out 2).trans rfl, Kd.C_below (Kd.C_below HXC.out.1 HBM.out) HBD.out, HXC.out.2⟩
    · omega)
  have HTD := Lib.hid (Kd.C_below (Kd.C_below HTC.out HBC.out) HBD.out)
  have HBWD := Lib.hid (below_then HBM.out HBM.out.size HBD.out)
  clear HGD HBD HMR HMM HXC HTC HBC HBM HB3 HB23
  go_loopw [59] (fun v59 W => ∃ i : Nat, i ≤ 3 ∧ v59 = .int .i64 i ∧ Aside0 (Below WD.heap.size WD W)) (fun v59 _ => 3 - (intOf v59).toNat)
  case atStart => exact ⟨0, by decide, rfl, ⟨Below.refl _ _⟩⟩
  case round =>
    obtain ⟨i, hi, rfl, HI⟩ := hrel
    have HB := Lib.hid HI.out
    clear HI
    have HBR := Lib.hid (below_then HBWD.out HBWD.out.size HB.out)
    by_cases hlt : i < 3
    rotate_left
    · obtain rfl : i = 3 := by omega
      have HE1 := Lib.hid (fun (W : World) (hb : Below w.heap.size w W) => evRight_calls An cn av W (Kd.C_below HAV.out hb))
      have HE2 := Lib.hid (fun (W : World) (hb : Below w.heap.size w W) => ev2Right_calls An cn av W (Kd.C_below HAV.out hb))
      generalize evOk av = b at *
      clear hlt HB
      go_wp2_with fail
      refine (HE1.out _ HBR.out).mono ?_
      rintro E W5 ⟨rfl, hb⟩
      have HB5 := Lib.hid (below_then HBR.out HBR.out.size hb)
      clear hb HE1
      go_wp2_with fail
      refine (HE2.out _ HB5.out).mono ?_
      rintro E W6 ⟨rfl, hb⟩
      have HB6 := Lib.hid (below_then HB5.out HB5.out.size hb)
      clear hb HE2
      go_wp2
      go_ret
      exact ⟨by cases b <;> rfl, HB6.out⟩
    obtain ⟨y, Ay, cy, h0, hC, hcy⟩ := HXD.out i hlt
    replace h0 := kept_cell HB.out h0
    have HE1 := Lib.hid (ends_calls t y A3 c3 Ay cy wr (Kd.C_below HTD.out HB.out) (Kd.C_below hC HB.out) hcy HTO.out.2 (by have := HTL.out; omega))
    have HE2 := Lib.hid (fun (W : World) (hb : Below wr.heap.size wr W) => endsD_calls t y A3 c3 Ay cy W (Kd.C_below (Kd.C_below HTD.out HB.out) hb) (Kd.C_below (Kd.C_below hC HB.out) hb) hcy HCT.out HTO.out.2 (by have := HTL.out; omega))
    have HF1 := Lib.hid (fun (W : World) (hb : Below wr.heap.size wr W) => first_calls t y A3 c3 Ay cy W (Kd.C_below (Kd.C_below HTD.out HB.out) hb) (Kd.C_below (Kd.C_below hC HB.out) hb) hcy HTO.out.2 (by have := HTL.out; omega))
    have HF2 := Lib.hid (fun (W : World) (hb : Below wr.heap.size wr W) => firstD_calls t y A3 c3 Ay cy W (Kd.C_below (Kd.C_below HTD.out HB.out) hb) (Kd.C_below (Kd.C_below hC HB.out) hb) hcy HCT.out HTO.out.2 (by have := HTL.out; omega))
    generalize firstE t y = fn at *
    generalize (endsE t y).1 = en at *
    generalize (endsE t y).2 = es at *
    have b1 : (0 : Int) ≤ i := by omega
    have b2 : (i : Int) < 3 := by omega
    clear hC hcy
    go_wp2_with fail
    refine HE1.out.mono ?_
    rintro E W5 ⟨hb, A7, c7, rfl, hC7⟩
    have HB5 := Lib.hid hb
    have HC7 := Lib.hid hC7
    have HE3 := Lib.hid (HE2.out _ hb)
    clear hb hC7 HE1 HE2
    go_wp2_with fail
    refine HE3.out.mono ?_
    rintro E W6 ⟨hb, v, rfl, hn⟩
    obtain ⟨A8, c8, rfl⟩ := Kd.N_slice hn
    have HB6 := Lib.hid (below_then HB5.out HB5.out.size hb)
    have HSA := Lib.hid (show Calls Try.prog 15 #[.slice A7 es.length c7, .slice A8 es.length c8] W6 fun e w' => e = .returned (.bool true) ∧ Below W6.heap.size W6 w' by
      have h := tabs2_calls A7 A8 c7 c8 es es W6 (Kd.C_below HC7.out hb) (Kd.N_reads' hn).2.2
      rw [decide_eq_true rfl] at h
      exact h)
    clear hb hn HE3 HC7 HB5
    go_wp2_with fail
    refine HSA.out.mono ?_
    rintro E W7 ⟨rfl, hb⟩
    have HB7 := Lib.hid (below_then HB6.out HB6.out.size hb)
    have HF3 := Lib.hid (HF1.out _ HB7.out)
    clear hb HSA HB6 HF1
    go_wp2_with fail
    refine HF3.out.mono ?_
    rintro E W8 ⟨rfl, hb⟩
    have HB8 := Lib.hid (below_then HB7.out HB7.out.size hb)
    have HF4 := Lib.hid (HF2.out _ HB8.out)
    clear hb HF3 HB7 HF2
    go_wp2_with fail
    refine HF4.out.mono ?_
    rintro E W9 ⟨rfl, hb⟩
    have HB9 := Lib.hid (below_then HB8.out HB8.out.size hb)
    have HB10 := Lib.hid (below_then HB.out HB.out.size HB9.out)
    clear hb HF4 HB8
    go_wp2
    go_roundw
    case rel => exact ⟨i + 1, by omega, by go_num, ⟨HB10.out⟩⟩
    case measure => simp [intOf]; omega

end Go.Proofs.Ytadhfedbgeenlaa.H
