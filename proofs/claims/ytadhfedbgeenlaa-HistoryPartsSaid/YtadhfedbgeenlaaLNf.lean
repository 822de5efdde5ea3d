/- The law HistoryParts. -/
import Derived.Test.YtadhfedbgeenlaaLNa
import Derived.Test.YtadhfedbgeenlaaQ8
namespace Go.Proofs.Ytadhfedbgeenlaa.H
open Go.RowKit Go.Proofs.YtadhfedbgeenlaaW.PrintWords Go.Proofs.YtadhfedbgeenlaaW.PrintLast Go.Proofs.YtadhfedbgeenlaaW.PrintMore
set_option linter.unusedVariables false
set_option linter.unusedSimpArgs false
open Aw
theorem rdRow_mem2 {es : List (List Rec)} {k : Nat} (h : k < es.length) : rdRow es k ∈ es := by
  have h2 : rdRow es (k : Int) = es[k] := by
    show es.getD (Int.toNat k) [] = es[k]
    rw [Int.toNat_natCast, List.getD_eq_getElem?_getD, List.getElem?_eq_getElem h]; rfl
  rw [h2]
  exact List.getElem_mem _
theorem C_dropE {w : World} {A : Option Addr} {c k : Nat} {l : List EvT} (h : Kd.C k38 w A l.length l) (hk : k ≤ l.length) (hc : l.length ≤ c) : Kd.C k38 w (if c = k then A else A.map (·.add (k * 12))) (l.drop k).length (l.drop k) := Kd.C_drop h hk hc
/-- Between two calls' worlds: the row of the law's own lies elsewhere. -/
def Between (n1 n2 : Nat) (v : Value) : Prop := ∀ j, v.ownBlock = some j → j < n1 ∨ n2 ≤ j

set_option maxHeartbeats 4000000 in
set_option maxRecDepth 100000 in
theorem parts_calls (raw ops : List S58) (known : List Int) (A0 A1 A2 : Option Addr) (c0 c1 c2 : Nat) (wh : Int) (w : World) (hr : Kd.C k58 w A0 raw.length raw) (ho : Kd.C k58 w A1 ops.length ops) (hk : Kd.C (Kd.int .i64) w A2 known.length known) (hir : ∀ x ∈ raw, InR x) (hio : ∀ x ∈ ops, InR x) (hik : ∀ x ∈ known, InI x) (h_wh : InI wh) :
    Calls Try.prog 8 #[.slice A0 raw.length c0, .slice A1 ops.length c1, .slice A2 known.length c2, .int .i64 wh] w fun e w' => e = .returned (.bool true) ∧ Below w.heap.size w w' := by
  have HTB := Lib.hid (fun (W : World) (hb : Below w.heap.size w W) => table_calls raw A0 c0 W (Kd.C_below hr hb) hir)
  have HEV := Lib.hid (fun (t : List S54) (A : Option Addr) (c : Nat) (W : World) (hb : Below w.heap.size w W) (ht : Kd.C k54 W A t.length t) (hp : PlainT t) (hlen : t.length ≤ 1000) (hct : t.length ≤ c) => events_calls t ops known A A1 A2 c c1 c2 W ht (Kd.C_below ho hb) (Kd.C_below hk hb) hio hik hp hlen hct)
  clear hr ho hir hio hk hik
  go_enter Try.func8, Try.ntmps8
  go_wp2_with fail
  refine (awake_calls w).mono ?_
  rintro E W1 ⟨rfl, hb⟩
  have HB1 := Lib.hid hb
  clear hb
  go_wp2_with fail
  refine (HTB.out W1 HB1.out).mono ?_
  rintro E W2 ⟨t, A3, c3, rfl, hT⟩
  have HB2 := Lib.hid (below_then HB1.out HB1.out.size hT.2.1)
  have HT := Lib.hid (Kd.N_reads' hT.1).2
  have HTO := Lib.hid hT.2.2
  have HTL := Lib.hid ((tabOk_iff.1 hT.2.2.1).2.2)
  clear hT HTB HB1
  go_wp2_with fail
  refine (HEV.out t A3 c3 W2 HB2.out HT.out.2 HTO.out.2 (by have := HTL.out; omega) HT.out.1).mono ?_
  rintro E W3 ⟨l, z, kn, un, A4, c4, A5, c5, rfl, hP, hW⟩
  have HP := Lib.hid hP
  have HW := Lib.hid hW
  have HLN := Lib.hid (Nat.le_trans (Nat.le_of_eq hP.2.1) hP.2.2.1)
  have HUN := Lib.hid (Nat.le_trans (Nat.le_of_eq hP.2.2.2.1) hP.2.2.2.2.1)
  clear hP hW HEV
  have HB23 := Lib.hid HW.out.2.2.2
  have HMR := Lib.hid (Kd.N_reads' HW.out.2.2.1).2
  have HBW := Lib.hid (below_then HB2.out HB2.out.size HB23.out)
  have HTC := Lib.hid (Kd.C_below HT.out.2 HB23.out)
  clear HW HP HT
  have x3 : IntKind.i64.wrap ((l.length : Int) + 1) = (l.length : Int) + 1 := IntWalk.i64_in _ (by have := HLN.out; constructor <;> omega)
  have HPB := Lib.hid (pickI_bound wh (l.length + 1) (by omega))
  have HPC := Lib.hid (fun w => pick21_calls wh (l.length + 1) h_wh (by omega) (by have := HLN.out; omega) w)
  generalize hk0 : pickI wh (l.length + 1) = k0 at *
  obtain ⟨k, rfl⟩ : ∃ k : Nat, k0 = k := ⟨k0.toNat, by have := HPB.out; omega⟩
  clear hk0
  have hk : k ≤ l.length := by have := HPB.out; omega
  have hkc : k ≤ c5 := Nat.le_trans hk HMR.out.1
  have hlt : (l.take k).length = k := by rw [List.length_take]; omega
  have hld : (l.drop k).length = l.length - k := List.length_drop
  have hen1 := ends_calls t l A3 c3 A5 c5 W3 HTC.out HMR.out.2 HMR.out.1 HTO.out.2 (by have := HTL.out; omega)
  rw [endsE_ok HTO.out.1 HLN.out (Nat.le_trans HUN.out (by decide))] at hen1
  have HEN1 := Lib.hid hen1
  have HEN2 := Lib.hid (show ∀ W, Below W3.heap.size W3 W → Calls Try.prog 13 #[.slice A3 t.length c3, .slice A5 k c5] W fun e w' => Below W.heap.size W w' ∧ ∃ A' c', e = .returned (.tuple #[.slice A' (endsT t (l.take k)).length c', .int .i64 0]) ∧ Kd.C (Kd.slice 54 k54) w' A' (endsT t (l.take k)).length (endsT t (l.take k)) from fun W hb => by
    have h := ends_calls t (l.take k) A3 c3 A5 c5 W (Kd.C_below HTC.out hb) (Kd.C_below (Kd.C_take HMR.out.2 hk) hb) (by rw [hlt]; exact hkc) HTO.out.2 (by have := HTL.out; omega)
    rw [endsE_ok HTO.out.1 (by rw [hlt]; have := HLN.out; omega) (Nat.le_trans (count_take l k) (Nat.le_trans HUN.out (by decide))), hlt] at h
    exact h)
  have HEN3 := Lib.hid (show ∀ u, u ∈ endsT t (l.take k) → ∀ (Au : Option Addr) (cu : Nat) (W : World), Kd.C k54 W Au u.length u → Below W3.heap.size W3 W → Calls Try.prog 13 #[.slice Au u.length cu, .slice (if c5 = k then A5 else A5.map (·.add (k * 12))) (l.length - k) (c5 - k)] W fun e w' => Below W.heap.size W w' ∧ ∃ A' c', e = .returned (.tuple #[.slice A' (endsT u (l.drop k)).length c', .int .i64 0]) ∧ Kd.F (Kd.slice 54 k54) w' (fun j => W.heap.size ≤ j) A' (endsT u (l.drop k)).length (endsT u (l.drop k)) from fun u hu Au cu W hC hb => by
    have hp := ends_plain HTO.out.2 (by have := HTL.out; omega) u hu
    have h := endsF_calls u (l.drop k) Au cu (if c5 = k then A5 else A5.map (·.add (k * 12))) (c5 - k) W hC (Kd.C_below (C_dropE HMR.out.2 hk HMR.out.1) hb) (by rw [hld]; have := HMR.out.1; omega) hp.1 hp.2
    rw [endsE_ok (ends_tabOk HTO.out.1 u hu) (by rw [hld]; have := HLN.out; omega) (Nat.le_trans (count_drop l k) (Nat.le_trans HUN.out (by decide))), hld] at h
    exact h)
  have HLE3 := Lib.hid (fun u => ends_len (t := u) (l := l.drop k) (l.length - k) (Nat.le_trans (count_drop l k) (Nat.le_trans HUN.out (by decide))))
  have HLE2 := Lib.hid (ends_len (t := t) (l := l) k (Nat.le_trans HUN.out (by decide)))
  have HPA := Lib.hid (show endsT t l = ddGo [] ((endsT t (l.take k)).flatMap (fun u => endsT u (l.drop k))) by rw [ddGo_nil]; exact parts_is t l k)
  have hdr : (l.drop k).take (l.length - k) = l.drop k := by rw [← hld, List.take_length]
  rw [hdr] at HLE3
  generalize endsT t l = es at *
  generalize endsT t (l.take k) = fs at *
  obtain ⟨f, hf⟩ : ∃ f : List Rec → List (List Rec), f = fun u => endsT u (l.drop k) := ⟨_, rfl⟩
  have hfu : ∀ u, endsT u (l.drop k) = f u := fun u => by rw [hf]
  simp only [hfu] at HPA HEN3 HLE3
  clear hen1 hlt hld hdr hf hfu
  generalize hSL : (if c5 = k then A5 else A5.map (·.add (k * 12))) = As at *
  have HSL := Lib.hid hSL
  clear hSL
  clear HTC HTO HTL HLN HUN HMR
  go_wp2_with fail
  refine (HPC.out _).mono ?_
  rintro E W4 ⟨rfl, rfl⟩
  go_wp2_with fail
  refine HEN1.out.mono ?_
  rintro E W4 ⟨hb, A6, c6, rfl, hC⟩
  have HC4 := Lib.hid hC
  have HB34 := Lib.hid hb
  have HE2 := Lib.hid (HEN2.out W4 hb)
  clear hb hC HEN1 HEN2
  go_wp2_with fail
  refine HE2.out.mono ?_
  rintro E W5 ⟨hb, A7, c7, rfl, hC⟩
  have HCF := Lib.hid hC
  have HCE := Lib.hid (Kd.C_below HC4.out hb)
  have HB35 := Lib.hid (below_then HB34.out HB34.out.size hb)
  have HB5 := Lib.hid (below_then HBW.out HBW.out.size HB35.out)
  have hmf := hC.2.1
  have HFB := Lib.hid HLE2.out
  clear hb hC HE2 HC4 HB34 HBW
  go_wp2
  go_loopw [18, 19] (fun v18 v19 W => ∃ (i m : Nat) (A9 : Option Addr) (c9 : Nat) (out : List (List Rec)), i ≤ fs.length ∧ m = out.length ∧ v19 = .int .i64 i ∧ v18 = .slice A9 m c9 ∧ Aside0 (m ≤ i * 1000000 ∧ NL W W5.heap.size (.slice A9 m c9) out ∧ Below W5.heap.size W5 W ∧ es = ddGo out ((fs.drop i).flatMap f))) (fun _ v19 _ => fs.length - (intOf v19).toNat)
  case atStart => exact ⟨0, 0, none, 0, [], Nat.zero_le _, rfl, rfl, rfl, ⟨Nat.zero_le _, Kd.N_nil _ _ _ _ _, Below.refl _ _, HPA.out⟩⟩
  case round =>
    obtain ⟨i, m, A9, c9, out, hi, hmo, rfl, rfl, HI⟩ := hrel
    have HMO := Lib.hid hmo; clear hmo
    obtain ⟨K0, hK0⟩ : ∃ K0, K0 = i * 1000000 := ⟨_, rfl⟩
    have HK0 := Lib.hid hK0
    have HMB := Lib.hid (show m ≤ K0 by rw [hK0]; exact HI.out.1)
    clear hK0
    have HN := Lib.hid HI.out.2.1
    have HB := Lib.hid HI.out.2.2.1
    have HE := Lib.hid HI.out.2.2.2
    have HBR := Lib.hid (below_then HB5.out HB5.out.size HI.out.2.2.1)
    clear HI
    by_cases hlt : i < fs.length
    rotate_left
    · obtain rfl : i = fs.length := by omega
      have HQ := Lib.hid (show es = out by rw [HE.out, List.drop_length]; rfl)
      have HSA := Lib.hid (show Calls Try.prog 15 #[.slice A6 es.length c6, .slice A9 m c9] wr fun e w' => e = .returned (.bool true) ∧ Below wr.heap.size wr w' by
        have h := tabs2_calls A6 A9 c6 c9 es out wr (Kd.C_below HCE.out HB.out) (by have := (Kd.N_reads' HN.out).2.2; exact this)
        rw [decide_eq_true HQ.out, ← HMO.out] at h
        exact h)
      clear hlt HN HE HB
      go_wp2_with fail
      refine HSA.out.mono ?_
      rintro E W6 ⟨rfl, hb⟩
      have HB6 := Lib.hid (below_then HBR.out HBR.out.size hb)
      clear hb HSA
      go_wp2
      go_ret
      exact ⟨rfl, HB6.out⟩
    obtain ⟨ad, A8, c8, hA, h0, hl0, hC0⟩ := at_row HCF.out (i : Int) (by omega) (by omega)
    subst hA
    rw [Int.toNat_natCast] at h0
    replace h0 := kept_cell HB.out h0
    have HX1 := Lib.hid (Kd.C_below hC0 HB.out)
    have HDR := Lib.hid (show (fs.drop i).flatMap f = f (rdRow fs i) ++ (fs.drop (i + 1)).flatMap f by rw [show fs.drop i = rdRow fs i :: fs.drop (i + 1) from drop_getD fs ([] : List Rec) hlt]; rfl)
    have HMEM := Lib.hid (rdRow_mem2 hlt)
    clear hC0 hl0
    generalize rdRow fs i = u at *
    have b1 : (0 : Int) ≤ i := by omega
    have b2 : (i : Int) < fs.length := by omega
    have b3 : (0 : Int) ≤ k := by omega
    have b4 : (k : Int) ≤ l.length := by omega
    generalize hw6 : wr = W6 at *
    clear hw6
    have HEX := Lib.hid (fun (W : World) (hb : Below W6.heap.size W6 W) => HEN3.out u HMEM.out A8 c8 W (Kd.C_below HX1.out hb) (below_then HB35.out HB35.out.size (below_then HB.out HB.out.size hb)))
    have HLU := Lib.hid (HLE3.out u)
    generalize f u = ls at *
    obtain ⟨rest, hrest⟩ : ∃ rest, rest = (fs.drop (i + 1)).flatMap f := ⟨_, rfl⟩
    have HRS := Lib.hid hrest
    rw [HDR.out, ← hrest] at HE
    clear hrest HDR HX1 HMEM
    have HKP := Lib.hid (show ∀ W W2 : World, (W.cell? (ad.add i) = some (.slice A8 u.length c8) ∧ Aside0 (Below W6.heap.size W6 W)) → Below W.heap.size W W2 → (W2.cell? (ad.add i) = some (.slice A8 u.length c8) ∧ Aside0 (Below W6.heap.size W6 W2)) from fun W W2 h hb => ⟨kept_cell hb h.1, ⟨below_then h.2.out h.2.out.size hb⟩⟩)
    have hs0 : W6.cell? (ad.add i) = some (.slice A8 u.length c8) ∧ Aside0 (Below W6.heap.size W6 W6) := ⟨h0, ⟨Below.refl _ _⟩⟩
    have hsl := HSL.out
    clear h0
    go_wp2_with fail
    go_region_held3 (fun W => W.cell? (ad.add i) = some (.slice A8 u.length c8) ∧ Aside0 (Below W6.heap.size W6 W))
      (first | assumption | exact HKP.out _ _ (by assumption) (below_drew (Below.refl _ _)) | go_keep)
      (first | (go_at_call 13; (with_reducible refine (HEX.out _ ?hbx).mono ?_); (case hbx => exact (by assumption : _ ∧ Aside0 (Below W6.heap.size W6 _)).2.out); rintro E W7 ⟨hb7, A10, c10, rfl, hf7⟩; have HX7 := Lib.hid (Kd.F_bound (Kd.F_mono hf7 (fun j hj => Nat.le_trans (by assumption : _ ∧ Aside0 (Below W6.heap.size W6 _)).2.out.size hj) : Kd.F (Kd.slice 54 k54) W7 (fun j => W6.heap.size ≤ j) A10 ls.length ls)); have hs7 := HKP.out _ _ (by assumption) hb7; clear hb7 hf7))
    have HB67 := Lib.hid (by assumption : W7.cell? (ad.add i) = some (.slice A8 u.length c8) ∧ Aside0 (Below W6.heap.size W6 W7)).2.out
    have HBT0 := Lib.hid (show Between W6.heap.size W7.heap.size (.slice A9 m c9) from fun q hq => Or.inl (Kd.N_lt HN.out q hq))
    have HN7 := Lib.hid (Kd.N_below HN.out HB67.out)
    have HB7 := Lib.hid (below_then HB.out HB.out.size HB67.out)
    have hmL := Kd.F_max HX7.out
    clear hs7 HKP hs0 HEX HN HB HBR hsl
    try clear hHeld
    go_wp2
    go_loopw [18, 22] (fun v18 v22 W => ∃ (j m : Nat) (A9 : Option Addr) (c9 : Nat) (out : List (List Rec)), j ≤ ls.length ∧ m = out.length ∧ v22 = .int .i64 j ∧ v18 = .slice A9 m c9 ∧ Aside0 (m ≤ K0 + j ∧ NL W W5.heap.size (.slice A9 m c9) out ∧ Below W5.heap.size W5 W ∧ es = ddGo out (ls.drop j ++ rest) ∧ Between W6.heap.size W7.heap.size (.slice A9 m c9) ∧ Kd.F (Kd.slice 54 k54) W (fun j => W6.heap.size ≤ j ∧ j < W7.heap.size) A10 ls.length ls ∧ W7.heap.size ≤ W.heap.size)) (fun _ v22 _ => ls.length - (intOf v22).toNat)
    case atStart => exact ⟨0, m, A9, c9, out, Nat.zero_le _, HMO.out, rfl, rfl, ⟨HMB.out, HN7.out, HB7.out, HE.out, HBT0.out, HX7.out, Nat.le_refl _⟩⟩
    case round =>
      clear HMO HMB HE HBT0 HN7 HB7
      obtain ⟨j, m, A9, c9, out, hj, hmo, rfl, rfl, HI⟩ := hrel
      have HMO := Lib.hid hmo; clear hmo
      by_cases hlj : j < ls.length
      rotate_left
      · obtain rfl : j = ls.length := by omega
        have HE2 := Lib.hid (show es = ddGo out ((fs.drop (i + 1)).flatMap f) by rw [HI.out.2.2.2.1, List.drop_length, List.nil_append, HRS.out])
        clear hlj
        go_wp2
        go_roundw
        case rel => exact ⟨i + 1, m, A9, c9, out, by omega, HMO.out, by go_num, rfl, ⟨by have := HI.out.1; have := HLU.out; have := HK0.out; omega, HI.out.2.1, HI.out.2.2.1, HE2.out⟩⟩
        case measure => simp [intOf]; omega
      obtain ⟨ad2, A0x, c0x, hA, h0, hl0, hf0⟩ := atFL HI.out.2.2.2.2.2.1 (j : Int) (by omega) (by omega)
      subst hA
      rw [Int.toNat_natCast] at h0
      have HX0 := Lib.hid h0
      have HDR := Lib.hid (show ls.drop j ++ rest = rdRow ls j :: (ls.drop (j + 1) ++ rest) by rw [show ls.drop j = rdRow ls j :: ls.drop (j + 1) from drop_getD ls ([] : List Rec) hlj]; rfl)
      generalize rdRow ls j = x at *
      have HF0 := Lib.hid hf0
      have HL0 := Lib.hid hl0
      clear hf0 hl0 h0
      have d1 : (0 : Int) ≤ j := by omega
      have d2 : (j : Int) < ls.length := by omega
      generalize hw8 : wr = W8 at *
      clear hw8
      have hmm : m ≤ 9223372036854775807 := by have := HI.out.1; have := HFB.out; have := HLU.out; have := HK0.out; omega
      go_upto_region 20 with (fail)
      go_wp2
      go_loopw [23, 24] (fun v23 v24 W => ∃ (n : Nat), n ≤ m ∧ v24 = .int .i64 n ∧ v23 = .bool (hasT x (out.take n)) ∧ Aside0 (Below W8.heap.size W8 W)) (fun _ v24 _ => m - (intOf v24).toNat)
      case atStart => exact ⟨0, Nat.zero_le _, rfl, rfl, ⟨Below.refl _ _⟩⟩
      case round =>
        obtain ⟨n, hn, rfl, rfl, HI2⟩ := hrel
        have HB := Lib.hid HI2.out
        clear HI2
        have h0 := kept_cell HB.out HX0.out
        have e3 : (0 : Int) ≤ n := by omega
        have HN := Lib.hid (Kd.N_below HI.out.2.1 HB.out)
        have HBW := Lib.hid (below_then HI.out.2.2.1 HI.out.2.2.1.size HB.out)
        have HFL := Lib.hid (Kd.F_below HI.out.2.2.2.2.2.1 HB.out)
        have HSZ := Lib.hid (Nat.le_trans HI.out.2.2.2.2.2.2 HB.out.size)
        by_cases hnm : n < m
        rotate_left
        · obtain rfl : n = m := by omega
          have HTK := Lib.hid (show out.take n = out by rw [HMO.out, List.take_length])
          clear hnm
          by_cases hin : x ∈ out
          · have HIN := Lib.hid (show hasT x (out.take n) = true by rw [HTK.out]; exact hasT_yes hin)
            have HE2 := Lib.hid (HI.out.2.2.2.1.trans (by rw [HDR.out, ddGo, if_pos hin] : _ = ddGo out (ls.drop (j + 1) ++ rest)))
            rw [HIN.out]
            clear hin
            go_wp2
            go_roundw
            case rel => exact ⟨j + 1, n, A9, c9, out, by omega, HMO.out, by go_num, rfl, ⟨by have := HI.out.1; omega, HN.out, HBW.out, HE2.out, HI.out.2.2.2.2.1, HFL.out, HSZ.out⟩⟩
            case measure => simp [intOf]; omega
          have HIN := Lib.hid (show hasT x (out.take n) = false by rw [HTK.out]; exact hasT_no hin)
          have HE2 := Lib.hid (HI.out.2.2.2.1.trans (by rw [HDR.out, ddGo, if_neg hin] : _ = ddGo (out ++ [x]) (ls.drop (j + 1) ++ rest)))
          rw [HIN.out]
          clear hin
          go_wp2_with (at_builtin; refine Kd.N_append (Kd.slice 54 k54) (w0 := W5) W5.heap.size rfl (.tmp 105) (.tmp 110) 40 26 (.slice none 0 0) 24 rfl Try.underlying40 info26 rfl (by decide) (by omega) (.slice A9 n c9) out x [.slice A0x x.length c0x] (fun _ => True) (fun j => W6.heap.size ≤ j ∧ j < W7.heap.size) rfl rfl ?aF ?aK (fun _ _ => trivial) ?aN ?aB ?aS ?aL ?_; (case aF => exact Kd.FK_slice_mk HL0.out (Kd.F_below HF0.out HB.out)); (case aK => exact (fun q hq => ⟨trivial, fun he => by have := HI.out.2.2.2.2.1 q he.symm; omega⟩)); (case aN => exact HN.out); (case aB => exact HBW.out); (case aS => exact HBW.out.size); (case aL => have := HMO.out; have := HI.out.1; have := HFB.out; have := HLU.out; have := HK0.out; omega); intro v1 w1 ho1 hb1 hg1 hat1; have HLK := Lib.hid (by rw [List.length_append, List.length_singleton, ← HMO.out] : (out ++ [x]).length = n + 1); obtain ⟨A7x, c7x, rfl⟩ := Kd.N_slice ho1; rw [HLK.out] at ho1 hat1 ⊢; have HO1 := Lib.hid (And.intro ho1 (And.intro hb1 (And.intro hg1 hat1))); clear ho1 hb1 hg1 hat1)
          have HB1 := Lib.hid (show Between W6.heap.size W7.heap.size (.slice A7x (n + 1) c7x) from fun q hq => by
            rcases HO1.out.2.2.2 with h | ⟨b, h, hb⟩
            · exact HI.out.2.2.2.2.1 q (h.symm.trans hq)
            · rw [h] at hq
              injection hq with hq
              have := HSZ.out
              omega)
          have HF1 := Lib.hid (show Kd.F (Kd.slice 54 k54) w1 (fun j => W6.heap.size ≤ j ∧ j < W7.heap.size) (some ad2) ls.length ls from Kd.F_step HFL.out (fun q hq hlt => HO1.out.2.2.1.block q hlt (fun he => by have := HI.out.2.2.2.2.1 q he.symm; omega)))
          have HS1 := Lib.hid (Nat.le_trans HSZ.out HO1.out.2.2.1.size)
          go_roundw
          case rel => exact ⟨j + 1, n + 1, A7x, c7x, out ++ [x], by omega, HLK.out.symm, by go_num, rfl, ⟨by have := HI.out.1; omega, HO1.out.1, HO1.out.2.1, HE2.out, HB1.out, HF1.out, HS1.out⟩⟩
          case measure => simp [intOf]; omega
        have b5 : (n : Int) < m := by omega
        have HAT := Lib.hid (hasT_step (x := x) (show n < out.length by have := HMO.out; omega))
        cases hh : hasT x (out.take n)
        rotate_left
        · have HNX := Lib.hid (HAT.out.trans (by rw [hh]; rfl : _ = true))
          clear hh HAT hnm
          go_wp2_with fail
          go_big_quiet (fail)
          go_wp2
          go_roundw
          case rel => exact ⟨n + 1, by omega, by go_num, by rw [HNX.out], ⟨pw_below_drewN HB.out _⟩⟩
          case measure => simp [intOf]; omega
        obtain ⟨ad9, A5x, c5x, hA9, k0, kl0, kf0⟩ := at_row (Kd.N_reads' HN.out).2.2 (n : Int) (by omega) (by have := HMO.out; omega)
        subst hA9
        rw [Int.toNat_natCast] at k0
        have HNX := Lib.hid (HAT.out.trans (by rw [hh, Bool.false_or] : _ = decide (rdRow out n = x)))
        have HSM := Lib.hid (fun (W : World) (hb : Below wr.heap.size wr W) => tab2_calls A5x A0x c5x c0x (rdRow out n) x W (Kd.C_below kf0 hb) (Kd.C_below (Kd.F_now (Kd.F_below HF0.out HB.out)) hb))
        rw [← HNX.out] at HSM
        clear kf0 kl0 hh HAT
        generalize rdRow out n = y at *
        have HKP := Lib.hid (show ∀ W W2 : World, (W.cell? (ad9.add n) = some (.slice A5x y.length c5x) ∧ W.cell? (ad2.add j) = some (.slice A0x x.length c0x) ∧ Aside0 (Below wr.heap.size wr W)) → Below W.heap.size W W2 → (W2.cell? (ad9.add n) = some (.slice A5x y.length c5x) ∧ W2.cell? (ad2.add j) = some (.slice A0x x.length c0x) ∧ Aside0 (Below wr.heap.size wr W2)) from fun W W2 h hb => ⟨kept_cell hb h.1, kept_cell hb h.2.1, ⟨below_then h.2.2.out h.2.2.out.size hb⟩⟩)
        have hs0 : wr.cell? (ad9.add n) = some (.slice A5x y.length c5x) ∧ wr.cell? (ad2.add j) = some (.slice A0x x.length c0x) ∧ Aside0 (Below wr.heap.size wr wr) := ⟨k0, h0, ⟨Below.refl _ _⟩⟩
        obtain ⟨q1, hq1⟩ : ∃ q1, q1 = hasT x (out.take (n + 1)) := ⟨_, rfl⟩
        have HSQ := Lib.hid hq1
        rw [← hq1] at HSM
        clear hq1 k0 h0
        go_wp2_with fail
        go_region_held3 (fun W => W.cell? (ad9.add n) = some (.slice A5x y.length c5x) ∧ W.cell? (ad2.add j) = some (.slice A0x x.length c0x) ∧ Aside0 (Below wr.heap.size wr W))
          (first | assumption | exact HKP.out _ _ (by assumption) (below_drew (Below.refl _ _)) | go_keep)
          (first | (go_at_call 20; (with_reducible refine (HSM.out _ ?hbx).mono ?_); (case hbx => exact (by assumption : _ ∧ _ ∧ Aside0 (Below wr.heap.size wr _)).2.2.out); rintro E w2 ⟨rfl, hb2⟩; have hs2 := HKP.out _ _ (by assumption) hb2))
        all_goals
          go_wp2
          go_roundw
          case rel => exact ⟨n + 1, by omega, by go_num, by rw [HSQ.out], ⟨below_then HB.out HB.out.size (by assumption : _ ∧ _ ∧ Aside0 (Below wr.heap.size wr _)).2.2.out⟩⟩
          case measure => simp [intOf]; omega

end Go.Proofs.Ytadhfedbgeenlaa.H
