/- Parts of the proof, merged: Kr, Kt, Jb, Ku, Kv, Hf, Id. -/
import Derived.Test.YtadhfedbgeenlaaQ6
import Derived.BigRegion
import Derived.Deep.RegionHeld3
import Derived.RangeFuncNested
import Derived.RangeFuncBound
import Derived.RangeFuncCalls
import Derived.RangeFuncLeaves
import Derived.TacticsIn
import Derived.Test.YtadhfedbgeenlaaQ4
import Derived.OwnWalkIn
import Derived.WalkKit
import Derived.TacticsInMore
import Derived.LoopIn
import Derived.Maps.AppendAt
import Derived.Test.YtadhfedbgeenlaaQ0
/- The program's Do. -/
namespace Go.Proofs.Ytadhfedbgeenlaa.H
open Go.RowKit Go.Proofs.YtadhfedbgeenlaaW.PrintWords Go.Proofs.YtadhfedbgeenlaaW.PrintLast Go.Proofs.YtadhfedbgeenlaaW.PrintMore
set_option linter.unusedVariables false
set_option linter.unusedSimpArgs false
def fM (k : Int) : Nat := if k = 6 then 49 else if k = 5 then 48 else if k = 4 then 47 else if k = 3 then 46 else if k = 2 then 45 else if k = 1 then 44 else 0

set_option maxHeartbeats 4000000 in
set_option maxRecDepth 100000 in
theorem do_calls (A : Option Addr) (c : Nat) (l : List S54) (o : S36) (w : World) (hr : Kd.C k54 w A l.length l) (hp : PlainT l) (hlen : l.length ≤ 1000) :
    Calls Try.prog 24 #[.slice A l.length c, .agg #[.int .i64 o.f0, .string o.f1, .string o.f2, .int .i64 o.f3, .string o.f4, .int .i64 o.f5, .string o.f6]] w (GotD w (doT l o)) := by
  obtain ⟨r, hr0⟩ : ∃ r, r = doT l o := ⟨_, rfl⟩
  have HDT := Lib.hid hr0
  rw [← hr0]
  clear hr0
  generalize hW0 : (w.alloc (.cells #[.int .i64 o.f0, .string o.f1, .string o.f2, .int .i64 o.f3, .string o.f4, .int .i64 o.f5, .string o.f6] 36)).alloc (.cells #[.int .i64 0, .int .i64 0, .string ⟨#[]⟩, .slice none 0 0] 34) = W0
  have HB0 := Lib.hid (show Below w.heap.size w W0 by rw [← hW0]; exact below_alloc (below_alloc (Below.refl _ _) _) _)
  have HK0 := Lib.hid (show W0.heap[w.heap.size]? = some (.cells #[.int .i64 o.f0, .string o.f1, .string o.f2, .int .i64 o.f3, .string o.f4, .int .i64 o.f5, .string o.f6] 36 (0, 0)) by rw [← hW0]; exact alloc_on (new_at rfl _) _)
  have HK1 := Lib.hid (show W0.heap[w.heap.size + 1]? = some (.cells #[.int .i64 0, .int .i64 0, .string ⟨#[]⟩, .slice none 0 0] 34 (0, 0)) by rw [← hW0]; exact new_at (by simp) _)
  have HSZ := Lib.hid (show W0.heap.size = w.heap.size + 2 by rw [← hW0]; simp)
  have HW0 := Lib.hid hW0; clear hW0
  have HF0 := Lib.hid (Kd.F_below (Kd.C_F heap_rec hr) HB0.out)
  have HRT := Lib.hid (fun (W : World) (hb : Below w.heap.size w W) => tabRight_calls A c l W (Kd.C_below hr hb) hp)
  have HC := Lib.hid (fun (W : World) (hb : Below W0.heap.size W0 W) => cloneR_calls A c l W (fun j => j < w.heap.size) (Kd.F_below HF0.out hb) (fun j hj => by have := HSZ.out; have := hb.size; omega) hlen)
  have HLEN := Lib.hid hlen
  have HPT := Lib.hid hp
  obtain ⟨p0, p1, p2, p3, p4, p5, p6, _, pl⟩ := seven_cells HK0.out
  clear hr hp hlen
  go_enter Try.func24, Try.ntmps24
  go_upto_region 1 with (fail)
  rw [HW0.out]
  clear HW0
  go_cut [6] (fun v6 W => ∃ d : Nat, v6 = .pointer (some ⟨d, 0, none⟩) ∧ Aside0 (∃ (A1 : Option Addr) (c1 : Nat), DoW (w.heap.size + 2) w.heap.size W0 d o l A1 c1 0 W))
  case first =>
    go_region_with (go_at_call 28; refine (HC.out W0.drew (below_drew (Below.refl _ _))).mono ?_; rintro E W2 ⟨v, rfl, hn2, hb2⟩; obtain ⟨A1, c1, rfl⟩ := Kd.N_slice hn2; have HX := Lib.hid (And.intro hn2 hb2); have HK2 := Lib.hid (kept_on hb2 (show W0.drew.heap[w.heap.size]? = _ from HK0.out)); obtain ⟨y0, y1, y2, y3, y4, y5, y6, _, yl⟩ := seven_cells HK2.out; clear hn2 hb2)
    all_goals
      go_wp2
      go_meet
      case rel =>
        have hn := HX.out.1
        have hb := HX.out.2
        have e : W0.drew.heap.size = w.heap.size + 2 := HSZ.out
        rw [e] at hn hb
        have hb2 : Below (w.heap.size + 2) W0 W2 := ⟨hb.os, hb.tape, hb.output, hb.size, hb.block⟩
        refine ⟨W2.heap.size, rfl, ⟨⟨A1, c1, ?_⟩⟩⟩
        exact doW_start hn hb2 (by have := hb.size; omega)
  obtain ⟨d, rfl, HA⟩ := hcut
  obtain ⟨A1, c1, hdo⟩ := HA.out
  have HDO := Lib.hid hdo
  have HDL0 := Lib.hid (blk_lt hdo.2.2.1)
  obtain ⟨k0, k1, k2, k3, k4, k5, k6, k7, k8, k9, kl⟩ := ten_cells hdo.2.2.1
  have hlen := HLEN.out
  clear hdo HA p0 p1 p2 p3 p4 p5 p6 pl HC HF0
  go_upto_region 2 with (fail)
  go_cut [19, 20, 21] (fun v19 v20 v21 W => v19 = .slice A1 l.length c1 ∧ v20 = .int .i64 l.length ∧ v21 = .int .i64 0 ∧ Aside0 (DoW (w.heap.size + 2) w.heap.size W0 d o l A1 c1 0 W))
  case first =>
    go_wp2
    go_meet
    case rel => exact ⟨rfl, rfl, rfl, ⟨HDO.out⟩⟩
  obtain ⟨rfl, rfl, rfl, HDOc⟩ := hcut
  clear HDO HDL0 k0 k1 k2 k3 k4 k5 k6 k7 k8 k9 kl
  rename Aside0 _ => HDO
  refine (by assumption : ∀ (a : Act) (w : World), Code.wp _ _ _ a w → _) _ _ ?_
  go_cut [21] (fun v21 W => Aside0 (DoW (w.heap.size + 2) w.heap.size W0 d o l A1 c1 l.length W))
  case first =>
    go_wp2
    go_loopw [21] (fun v21 W => ∃ k : Nat, k ≤ l.length ∧ v21 = .int .i64 k ∧ Aside0 (DoW (w.heap.size + 2) w.heap.size W0 d o l A1 c1 k W)) (fun v21 _ => l.length - (intOf v21).toNat)
    case atStart => exact ⟨0, Nat.zero_le _, rfl, ⟨HDO.out⟩⟩
    case round =>
      obtain ⟨k, hk, rfl, HI⟩ := hrel
      by_cases hlt : k < l.length
      rotate_left
      · obtain rfl : k = l.length := by omega
        clear hlt
        go_wp2
        go_meet
        case rel => exact HI
      obtain ⟨hB, hbd, hd, hM⟩ := HI.out
      obtain ⟨g, rfl⟩ : ∃ g, A1 = some ⟨g, 0, none⟩ := by
        rcases hM with ⟨_, rfl, _⟩ | ⟨g, h, _⟩
        · simp at hlt
        · exact ⟨g, h⟩
      obtain ⟨hgd, hMM⟩ : g ≠ d ∧ MixR (w.heap.size + 2) g l.length c1 (fun j => (w.heap.size + 2) ≤ j ∧ j ≠ d) (fun j => (j < w.heap.size ∨ (w.heap.size + 2) ≤ j) ∧ j ≠ d) k l wr := by
        rcases hM with ⟨h, _⟩ | ⟨g', h, h2, h3⟩
        · cases h
        · injection h with h
          injection h with h
          subst h
          exact ⟨h2, h3⟩
      obtain ⟨A5, c5, h0, h1, h2, h3, h4, h5, hC5, hfr⟩ := mix_at hMM hlt
      have b1 : (0 : Int) ≤ k := by omega
      have b2 : (k : Int) < l.length := by omega
      have HBW := Lib.hid (hB.size)
      have hl5 : (rd_T54 l k).f5.length ≤ 1000 := (HPT.out _ (rd_mem hlt)).2
      have HCF := Lib.hid (fun (W : World) (hb : Below wr.heap.size wr W) => cloneF_calls A5 c5 (rd_T54 l k).f5 W (Kd.C_below hC5 hb) hl5)
      have HMM := Lib.hid hMM
      have HGL := Lib.hid (show g < wr.heap.size by obtain ⟨cur, hc, _⟩ := hMM; exact blk_lt hc)
      have HDS := Lib.hid (fun (Wa W2 : World) (A6 : Option Addr) (c6 : Nat) (ha : Below wr.heap.size wr Wa) (hb : Below Wa.heap.size Wa W2) hR => doW_step (k := k) (A6 := A6) (c6 := c6) (W2 := W2) (doW_below HI.out (by have := HSZ.out; have := HBW.out; omega) ha) hlt (by have := HSZ.out; have := HBW.out; have := ha.size; omega) hb hR)
      have HD2 := Lib.hid hd
      obtain ⟨k0, k1, k2, k3, k4, k5, k6, k7, k8, k9, kl⟩ := ten_cells hd
      generalize rd_T54 l k = x at *
      clear hB hbd hd hM hMM hC5 hl5
      go_upto_region 4 with (fail)
      go_cut [7, 8] (fun v7 v8 W => v7 = .int .i64 k ∧ ∃ gx : Nat, v8 = .pointer (some ⟨gx, 0, none⟩) ∧ Aside0 (W.heap[gx]? = some (.cells #[.string x.f0, .string x.f1, .int .i64 x.f2, .int .i64 x.f3, .string x.f4, .slice A5 x.f5.length c5] 54 (0, 0)) ∧ Below wr.heap.size wr W))
      case first =>
        go_wp2
        go_meet
        case rel => exact ⟨rfl, _, rfl, ⟨new_at rfl _, below_alloc (Below.refl _ _) _⟩⟩
      obtain ⟨rfl, gx, rfl, HA⟩ := hcut
      clear h0 h1 h2 h3 h4 k0 k1 k2 k3 k4 k5 k6 k7 k8 k9 kl
      have HD3 := Lib.hid (kept_on HA.out.2 HD2.out)
      obtain ⟨k0, k1, k2, k3, k4, k5, k6, k7, k8, k9, kl⟩ := ten_cells HD3.out
      obtain ⟨x0, x1, x2, x3, x4, x5, xf, xl⟩ := six_cells HA.out.1
      have HCF2 := Lib.hid (HCF.out wc.drew (below_drew HA.out.2))
      have HDS2 := Lib.hid (fun (W2 : World) (A6 : Option Addr) (c6 : Nat) hb hR => HDS.out wc.drew W2 A6 c6 (below_drew HA.out.2) hb hR)
      have HG5 := Lib.hid (kept_cell HA.out.2 h5)
      have HGF := Lib.hid (show ∃ cs : Array Value, wc.heap[g]? = some (.cells cs 54 (0, 0)) by obtain ⟨cur, hc, _⟩ := HMM.out; exact ⟨_, kept_on HA.out.2 hc⟩)
      clear HCF HDS h5
      go_upto_region 5 with (fail)
      go_region_with (go_at_call 39; refine HCF2.out.mono ?_; rintro E W2 ⟨v, rfl, hR2, hb2⟩; obtain ⟨A6, c6, rfl⟩ := Kd.R_slice hR2; have HX := Lib.hid (And.intro hR2 hb2); have HD4 := Lib.hid (kept_on hb2 (show wc.drew.heap[d]? = _ from HD3.out)); obtain ⟨y0, _⟩ := ten_cells HD4.out; have yg := kept_cell hb2 (show wc.drew.cell? ⟨g, k * 6 + 5, none⟩ = _ from HG5.out); have ygf : W2.frozen? ⟨g, k * 6 + 5, none⟩ = false := (by obtain ⟨cs, hcs⟩ := HGF.out; exact blk_frozen (kept_on hb2 (show wc.drew.heap[g]? = _ from hcs)) _); clear hR2 hb2)
      all_goals
        go_wp2
        go_roundw
        case rel => exact ⟨k + 1, by omega, by go_num, ⟨HDS2.out W2 A6 c6 HX.out.2 HX.out.1⟩⟩
        case measure => simp [intOf]; omega
  clear HDO
  rename Aside0 _ => HA
  have hend := doW_end HA.out
  have HBW := Lib.hid (below_then HB0.out HB0.out.size (show Below W0.heap.size W0 wc by rw [HSZ.out]; exact hend.2.1))
  have HD := Lib.hid hend
  clear HA hend
  have hcz := HBW.out.size
  have HG7 := Lib.hid (fun (W : World) (hb : Below wc.heap.size wc W) => (show DeskG (w.heap.size + 2) W0 d o 0 false l A1 c1 (fun _ => True) W from HD.out.below (by have := HSZ.out; have := HD.out.2.1.size; omega) hb))
  have HKE := Lib.hid (fun (W : World) (hb : Below (w.heap.size + 2) W0 W) => (show W.heap[w.heap.size]? = some (.cells #[.int .i64 o.f0, .string o.f1, .string o.f2, .int .i64 o.f3, .string o.f4, .int .i64 o.f5, .string o.f6] 36 (0, 0)) ∧ W.heap[w.heap.size + 1]? = some (.cells #[.int .i64 0, .int .i64 0, .string ⟨#[]⟩, .slice none 0 0] 34 (0, 0)) from ⟨kept_on (by rw [HSZ.out]; exact hb) HK0.out, kept_on (by rw [HSZ.out]; exact hb) HK1.out⟩))
  have HFAIL := Lib.hid (fun (W : World) (A9 : Option Addr) (c9 : Nat) (hr : r = (l, ⟨1, 0, ⟨#[]⟩, []⟩)) (hD : DeskG (w.heap.size + 2) W0 d o 0 false l A9 c9 (fun _ => True) W) => gotD_mk (w := w) (W := W) (n := (w.heap.size + 2)) (g := w.heap.size + 1) hr (by omega) (by omega) (HKE.out W hD.2.1).2 (Kd.N_mono hD.2.2.2 (fun _ h => h.1.1)) (Kd.R_nil _ _ _ _ _) (below_then HB0.out HB0.out.size (show Below W0.heap.size W0 W by rw [HSZ.out]; exact hD.2.1)))
  refine (by assumption : ∀ (a : Act) (w : World), Code.wp _ _ _ a w → _) _ _ ?_
  have HRW := Lib.hid (HRT.out wc HBW.out)
  clear HRT
  cases htab : tabOk l
  · have HQ := Lib.hid (HDT.out.trans (show doT l o = (l, ⟨1, 0, ⟨#[]⟩, []⟩) from if_neg (fun h => by rw [htab] at h; cases h.1)))
    rw [htab] at HRW
    clear htab
    go_upto_region 7 with (fail)
    go_wp2_with fail
    refine HRW.out.mono ?_
    rintro e W1 ⟨rfl, hb1⟩
    have HD1 := Lib.hid (HG7.out W1 hb1)
    clear hb1 HRW
    obtain ⟨k0, k1, k2, k3, k4, k5, k6, k7, k8, k9, kl⟩ := ten_cells HD1.out.2.2.1
    have HKW := Lib.hid (HKE.out W1 HD1.out.2.1)
    obtain ⟨q0, q1, q2, q3, _, ql⟩ := four_cells HKW.out.2
    have HF := Lib.hid (fault_calls 1 W1.drew)
    have HD1s := HD1.out.2.1.size
    go_upto_region 8 with (fail)
    go_region_with (go_at_call 41; refine HF.out.mono ?_; rintro E W2 ⟨rfl, hb2⟩; have HD2 := Lib.hid (HD1.out.below (by have := HSZ.out; omega) (show Below W1.heap.size W1 W2 from ⟨hb2.os, hb2.tape, hb2.output, hb2.size, hb2.block⟩)); clear hb2; obtain ⟨y0, y1, y2, y3, y4, y5, y6, y7, y8, y9, yl⟩ := ten_cells HD2.out.2.2.1; have HKW2 := Lib.hid (HKE.out W2 HD2.out.2.1); obtain ⟨z0, z1, z2, z3, _, zl⟩ := four_cells HKW2.out.2; have z0f := blk_frozen HKW2.out.2 0; have z1f := blk_frozen HKW2.out.2 1; have z2f := blk_frozen HKW2.out.2 2; have z3f := blk_frozen HKW2.out.2 3)
    all_goals
      go_wp2
      exact ret_TP Try.results24 rfl rfl rfl (put4_at HKW2.out.2) (HFAIL.out W2 _ _ HQ.out HD2.out)
  have hchk : checkE o = 1 ∨ checkE o = 0 := by unfold checkE; split; exact .inl rfl; exact .inr rfl
  rw [htab] at HRW
  go_upto_region 7 with (fail)
  go_wp2_with fail
  refine HRW.out.mono ?_
  rintro e W1 ⟨rfl, hb1⟩
  have HB1 := Lib.hid hb1
  have HD1 := Lib.hid (HG7.out W1 hb1)
  have HKW := Lib.hid (HKE.out W1 HD1.out.2.1)
  clear hb1 HRW
  obtain ⟨p0, p1, p2, p3, p4, p5, p6, _, pl⟩ := seven_cells HKW.out.1
  have HCH := Lib.hid (check_calls o W1)
  rcases hchk with hc0 | hc0
  · have HQ := Lib.hid (HDT.out.trans (show doT l o = (l, ⟨1, 0, ⟨#[]⟩, []⟩) from if_neg (fun h => by rw [hc0] at h; cases h.2)))
    rw [hc0] at HCH
    clear hc0
    go_wp2_with fail
    refine HCH.out.mono ?_
    rintro e W3 ⟨rfl, hb3⟩
    have HD3 := Lib.hid (HD1.out.below (by have := HSZ.out; have := HD1.out.2.1.size; omega) hb3)
    clear hb3 HCH HD1 HKW p0 p1 p2 p3 p4 p5 p6 pl HB1
    generalize W3 = W1 at *
    rename Hid (DeskG _ _ _ _ _ _ _ _ _ _ _) => HD1
    obtain ⟨k0, k1, k2, k3, k4, k5, k6, k7, k8, k9, kl⟩ := ten_cells HD1.out.2.2.1
    have HKW := Lib.hid (HKE.out W1 HD1.out.2.1)
    obtain ⟨q0, q1, q2, q3, _, ql⟩ := four_cells HKW.out.2
    have HF := Lib.hid (fault_calls 1 W1.drew)
    have HD1s := HD1.out.2.1.size
    go_upto_region 8 with (fail)
    go_region_with (go_at_call 41; refine HF.out.mono ?_; rintro E W2 ⟨rfl, hb2⟩; have HD2 := Lib.hid (HD1.out.below (by have := HSZ.out; omega) (show Below W1.heap.size W1 W2 from ⟨hb2.os, hb2.tape, hb2.output, hb2.size, hb2.block⟩)); clear hb2; obtain ⟨y0, y1, y2, y3, y4, y5, y6, y7, y8, y9, yl⟩ := ten_cells HD2.out.2.2.1; have HKW2 := Lib.hid (HKE.out W2 HD2.out.2.1); obtain ⟨z0, z1, z2, z3, _, zl⟩ := four_cells HKW2.out.2; have z0f := blk_frozen HKW2.out.2 0; have z1f := blk_frozen HKW2.out.2 1; have z2f := blk_frozen HKW2.out.2 2; have z3f := blk_frozen HKW2.out.2 3)
    all_goals
      go_wp2
      exact ret_TP Try.results24 rfl rfl rfl (put4_at HKW2.out.2) (HFAIL.out W2 _ _ HQ.out HD2.out)
  have hris : Rises l := (tabOk_iff.1 htab).2.1
  have hl20 : l.length ≤ 20 := (tabOk_iff.1 htab).2.2
  have hrevs : ∀ x ∈ l, -9223372036854775808 ≤ x.f2 ∧ x.f2 ≤ 9007199254740992 := fun x hx => ⟨by have := (recOk_rev ((tabOk_iff.1 htab).1 x hx)).1; omega, (recOk_rev ((tabOk_iff.1 htab).1 x hx)).2⟩
  have hkind : 1 ≤ o.f0 ∧ o.f0 ≤ 6 := by
    unfold checkE at hc0
    split at hc0
    · omega
    · rename_i hb
      unfold badOp at hb
      omega
  obtain ⟨p, hpp⟩ : ∃ p, p = lbN l o.f1 := ⟨_, rfl⟩
  obtain ⟨here, hhe⟩ : ∃ here, here = hereP l o.f1 := ⟨_, rfl⟩
  have HQ := Lib.hid (show r = doP l o p here by rw [HDT.out, show doT l o = doK l (posK l o.f1) o from if_pos ⟨htab, hc0⟩, doP_is hris, hpp, hhe])
  have hple : p ≤ l.length := by rw [hpp]; exact lbN_le l o.f1
  have hhp : here = true → p < l.length := fun h => by
    rw [hhe] at h
    unfold hereP at h
    rw [hpp]
    exact (of_decide_eq_true h).1
  have HSE := Lib.hid (fun (W : World) (hD : DeskG (w.heap.size + 2) W0 d o 0 false l A1 c1 (fun _ => True) W) => (show Calls Try.prog 42 #[.slice A1 l.length c1, .string o.f1, .func (.func 43) #[] #[]] W (fun e w' => e = .returned (.tuple #[.int .i64 p, .bool here]) ∧ Below W.heap.size W w') from by
    have h := search_calls A1 c1 l o.f1 p W (Kd.N_reads' hD.2.2.2).2.2 hlen (by rw [hpp]; exact lbK_of o.f1 hris)
    rw [hhe, hpp]
    rw [hpp] at h
    exact h))
  have HPH := Lib.hid (And.intro hple (And.intro hhp (And.intro hrevs hkind)))
  rw [hc0] at HCH
  clear hc0 htab hris hrevs hkind hpp hhe hple hhp
  go_wp2_with fail
  refine HCH.out.mono ?_
  rintro e W3 ⟨rfl, hb3⟩
  have HD3 := Lib.hid (HD1.out.below (by have := HSZ.out; have := HD1.out.2.1.size; omega) hb3)
  clear hb3 HCH HD1 HKW p0 p1 p2 p3 p4 p5 p6 pl HB1
  have HKW := Lib.hid (HKE.out W3 HD3.out.2.1)
  obtain ⟨k0, k1, k2, k3, k4, k5, k6, k7, k8, k9, kl⟩ := ten_cells HD3.out.2.2.1
  obtain ⟨p0, p1, p2, p3, p4, p5, p6, _, pl⟩ := seven_cells HKW.out.1
  have HD3s := HD3.out.2.1.size
  have HSE3 := Lib.hid (HSE.out W3.drew ⟨HD3.out.1, below_drew HD3.out.2.1, HD3.out.2.2.1, Kd.N_drew HD3.out.2.2.2⟩)
  go_upto_region 9 with (fail)
  go_cut [62] (fun v62 W => Aside0 (DeskG (w.heap.size + 2) W0 d o p here l A1 c1 (fun _ => True) W))
  case first =>
    go_region_with (go_at_call 42; refine HSE3.out.mono ?_; rintro E W4 ⟨rfl, hb4⟩; have HD4 := Lib.hid (HD3.out.below (by have := HSZ.out; omega) (show Below W3.heap.size W3 W4 from ⟨hb4.os, hb4.tape, hb4.output, hb4.size, hb4.block⟩)); clear hb4; obtain ⟨y0, y1, y2, y3, y4, y5, y6, y7, y8, y9, yl⟩ := ten_cells HD4.out.2.2.1; have y8f := blk_frozen HD4.out.2.2.1 8; have y9f := blk_frozen HD4.out.2.2.1 9)
    all_goals
      go_wp2
      go_meet
      case rel => exact ⟨HD4.out.1, (HD4.out.2.1.setCell (p := ⟨d, 8, none⟩) HD4.out.1 _).setCell (p := ⟨d, 9, none⟩) HD4.out.1 _, blk_put (blk_put HD4.out.2.2.1 8 _ rfl) 9 _ rfl, Kd.N_far (p := ⟨d, 9, none⟩) (Kd.N_far (p := ⟨d, 8, none⟩) HD4.out.2.2.2 (fun k hk => hk.1.2) _) (fun k hk => hk.1.2) _⟩
  clear HD3 HKW k0 k1 k2 k3 k4 k5 k6 k7 k8 k9 kl p0 p1 p2 p3 p4 p5 p6 pl HSE3 HD3s
  rename Aside0 _ => HA
  have HD5 := Lib.hid HA.out
  have HD5s := HA.out.2.1.size
  clear HA HSE HFAIL HG7
  have hmm := @run_makeMap Try.prog
  have hm0 := MapF.made d wc
  obtain ⟨M1, hs1, hm1, hg1⟩ := hm0.store (by simp only [maxLen]; omega) 1 44 ⟨by omega, by omega⟩
  simp only [methV] at hs1
  obtain ⟨M2, hs2, hm2, hg2⟩ := hm1.store (by simp only [maxLen]; omega) 2 45 ⟨by omega, by omega⟩
  simp only [methV] at hs2
  obtain ⟨M3, hs3, hm3, hg3⟩ := hm2.store (by simp only [maxLen]; omega) 3 46 ⟨by omega, by omega⟩
  simp only [methV] at hs3
  obtain ⟨M4, hs4, hm4, hg4⟩ := hm3.store (by simp only [maxLen]; omega) 4 47 ⟨by omega, by omega⟩
  simp only [methV] at hs4
  obtain ⟨M5, hs5, hm5, hg5⟩ := hm4.store (by simp only [maxLen]; omega) 5 48 ⟨by omega, by omega⟩
  simp only [methV] at hs5
  obtain ⟨M6, hs6, hm6, hg6⟩ := hm5.store (by simp only [maxLen]; omega) 6 49 ⟨by omega, by omega⟩
  simp only [methV] at hs6
  have hz0 : (wc.alloc (.map #[] 0)).heap.size = wc.heap.size + 1 := by simp
  have hB6 := (((((((below_alloc (Below.refl wc.heap.size wc) (.map #[] 0)).grown hg1 (by omega) (fun j hj => by cases hj; omega)).grown hg2 (by have := hg1.size; omega) (fun j hj => by cases hj; omega)).grown hg3 (by have := hg1.size; have := hg2.size; omega) (fun j hj => by cases hj; omega)).grown hg4 (by have := hg1.size; have := hg2.size; have := hg3.size; omega) (fun j hj => by cases hj; omega)).grown hg5 (by have := hg1.size; have := hg2.size; have := hg3.size; have := hg4.size; omega) (fun j hj => by cases hj; omega)).grown hg6 (by have := hg1.size; have := hg2.size; have := hg3.size; have := hg4.size; have := hg5.size; omega) (fun j hj => by cases hj; omega))
  have HM6 := Lib.hid (show MapF d M6 wc.heap.size 6 fM from hm6)
  have HB6 := Lib.hid hB6
  clear hm0 hm1 hm2 hm3 hm4 hm5 hm6 hg1 hg2 hg3 hg4 hg5 hg6 hB6 hz0
  go_upto_region 10 with (fail)
  go_cut [9] (fun v9 W => ∃ m : Nat, v9 = .map (some m) ∧ Aside0 (MapF d W m 6 fM ∧ DeskG (w.heap.size + 2) W0 d o p here l A1 c1 (fun _ => True) W))
  case first =>
    go_wp2
    go_meet
    case rel => exact ⟨_, rfl, ⟨HM6.out, HD5.out.below (by have := HSZ.out; omega) HB6.out⟩⟩
  obtain ⟨m, rfl, HA⟩ := hcut
  clear hs1 hs2 hs3 hs4 hs5 hs6 HM6 HB6 HD5 HD5s hmm
  have HD6 := Lib.hid HA.out.2
  have HM6 := Lib.hid HA.out.1
  have HKW := Lib.hid (HKE.out wc HA.out.2.2.1)
  have HSZ6 := HA.out.2.2.1.size
  clear HA
  obtain ⟨p0, p1, p2, p3, p4, p5, p6, _, pl⟩ := seven_cells HKW.out.1
  go_upto_region 11 with (fail)
  go_cut [10] (fun v10 W => ∃ (gr : Nat) (A4 : Option Addr) (c4 : Nat), v10 = .pointer (some ⟨gr, 0, none⟩) ∧ Aside0 (W.heap[gr]? = some (.cells #[.int .i64 r.2.f0, .int .i64 r.2.f1, .string r.2.f2, .slice A4 r.2.f3.length c4] 34 (0, 0)) ∧ (∃ A c, DeskG (w.heap.size + 2) W0 d o p here r.1 A c (fun _ => True) W) ∧ Kd.R Kd.string 9 W (w.heap.size + 2) (fun _ => True) (.slice A4 r.2.f3.length c4) r.2.f3))
  case first =>
    have hk0 := HPH.out.2.2.2
    have hkk : o.f0 = 1 ∨ o.f0 = 2 ∨ o.f0 = 3 ∨ o.f0 = 4 ∨ o.f0 = 5 ∨ o.f0 = 6 := by omega
    clear hk0
    have HLK := Lib.hid (fun (h : 0 < fM o.f0) (h2 : -9223372036854775808 ≤ o.f0 ∧ o.f0 ≤ 9223372036854775807) => HM6.out.look o.f0 h2 h)
    have HGC := Lib.hid (fun (e : Ending) (w' : World) (h : GotC (w.heap.size + 2) W0 d o p here r e w') => (show ∃ A4 c4, e = .returned (.agg #[.int .i64 r.2.f0, .int .i64 r.2.f1, .string r.2.f2, .slice A4 r.2.f3.length c4]) ∧ (∃ A c, DeskG (w.heap.size + 2) W0 d o p here r.1 A c (fun _ => True) w') ∧ Kd.R Kd.string 9 w' (w.heap.size + 2) (fun _ => True) (.slice A4 r.2.f3.length c4) r.2.f3 from by
      obtain ⟨u, h1, h2, h3⟩ := h
      obtain ⟨A4, c4, rfl⟩ := Kd.R_slice h3
      exact ⟨A4, c4, h1, h2, h3⟩))
    have HME := Lib.hid (And.intro HPH.out.1 (And.intro HPH.out.2.1 HPH.out.2.2.1))
    rcases hkk with hk | hk | hk | hk | hk | hk
    · have hf : fM o.f0 = 44 := by rw [hk]; rfl
      have hlook := HLK.out (by rw [hf]; decide) ⟨by omega, by omega⟩
      rw [hf] at hlook
      simp only [methV] at hlook
      have HMC := Lib.hid (methGet_calls HD6.out HME.out.1 HME.out.2.1 hlen (by have := HSZ.out; omega) HME.out.2.2 hk)
      rw [← HQ.out] at HMC
      clear hk hf HLK
      go_wp2_with fail
      refine HMC.out.mono ?_
      rintro e W8 hgc
      obtain ⟨A4, c4, rfl, hds, hrs⟩ := HGC.out e W8 hgc
      have HDS := Lib.hid hds
      have HRS := Lib.hid hrs
      clear hgc hds hrs HMC hlook p0 p1 p2 p3 p4 p5 p6 pl
      go_wp2
      go_meet
      case rel =>
        obtain ⟨A9, c9, hD9⟩ := HDS.out
        exact ⟨_, A4, c4, rfl, ⟨new_at rfl _, ⟨A9, c9, hD9.below (by have := HSZ.out; have := hD9.2.1.size; omega) (below_alloc (Below.refl _ _) _)⟩, Kd.R_alloc HRS.out _⟩⟩
    · have hf : fM o.f0 = 45 := by rw [hk]; rfl
      have hlook := HLK.out (by rw [hf]; decide) ⟨by omega, by omega⟩
      rw [hf] at hlook
      simp only [methV] at hlook
      have HMC := Lib.hid (methPut_calls HD6.out HME.out.1 HME.out.2.1 hlen (by have := HSZ.out; omega) HME.out.2.2 hk)
      rw [← HQ.out] at HMC
      clear hk hf HLK
      go_wp2_with fail
      refine HMC.out.mono ?_
      rintro e W8 hgc
      obtain ⟨A4, c4, rfl, hds, hrs⟩ := HGC.out e W8 hgc
      have HDS := Lib.hid hds
      have HRS := Lib.hid hrs
      clear hgc hds hrs HMC hlook p0 p1 p2 p3 p4 p5 p6 pl
      go_wp2
      go_meet
      case rel =>
        obtain ⟨A9, c9, hD9⟩ := HDS.out
        exact ⟨_, A4, c4, rfl, ⟨new_at rfl _, ⟨A9, c9, hD9.below (by have := HSZ.out; have := hD9.2.1.size; omega) (below_alloc (Below.refl _ _) _)⟩, Kd.R_alloc HRS.out _⟩⟩
    · have hf : fM o.f0 = 46 := by rw [hk]; rfl
      have hlook := HLK.out (by rw [hf]; decide) ⟨by omega, by omega⟩
      rw [hf] at hlook
      simp only [methV] at hlook
      have HMC := Lib.hid (methRemove_calls HD6.out HME.out.1 HME.out.2.1 hlen (by have := HSZ.out; omega) HME.out.2.2 hk)
      rw [← HQ.out] at HMC
      clear hk hf HLK
      go_wp2_with fail
      refine HMC.out.mono ?_
      rintro e W8 hgc
      obtain ⟨A4, c4, rfl, hds, hrs⟩ := HGC.out e W8 hgc
      have HDS := Lib.hid hds
      have HRS := Lib.hid hrs
      clear hgc hds hrs HMC hlook p0 p1 p2 p3 p4 p5 p6 pl
      go_wp2
      go_meet
      case rel =>
        obtain ⟨A9, c9, hD9⟩ := HDS.out
        exact ⟨_, A4, c4, rfl, ⟨new_at rfl _, ⟨A9, c9, hD9.below (by have := HSZ.out; have := hD9.2.1.size; omega) (below_alloc (Below.refl _ _) _)⟩, Kd.R_alloc HRS.out _⟩⟩
    · have hf : fM o.f0 = 47 := by rw [hk]; rfl
      have hlook := HLK.out (by rw [hf]; decide) ⟨by omega, by omega⟩
      rw [hf] at hlook
      simp only [methV] at hlook
      have HMC := Lib.hid (methCas_calls HD6.out HME.out.1 HME.out.2.1 hlen (by have := HSZ.out; omega) HME.out.2.2 hk)
      rw [← HQ.out] at HMC
      clear hk hf HLK
      go_wp2_with fail
      refine HMC.out.mono ?_
      rintro e W8 hgc
      obtain ⟨A4, c4, rfl, hds, hrs⟩ := HGC.out e W8 hgc
      have HDS := Lib.hid hds
      have HRS := Lib.hid hrs
      clear hgc hds hrs HMC hlook p0 p1 p2 p3 p4 p5 p6 pl
      go_wp2
      go_meet
      case rel =>
        obtain ⟨A9, c9, hD9⟩ := HDS.out
        exact ⟨_, A4, c4, rfl, ⟨new_at rfl _, ⟨A9, c9, hD9.below (by have := HSZ.out; have := hD9.2.1.size; omega) (below_alloc (Below.refl _ _) _)⟩, Kd.R_alloc HRS.out _⟩⟩
    · have hf : fM o.f0 = 48 := by rw [hk]; rfl
      have hlook := HLK.out (by rw [hf]; decide) ⟨by omega, by omega⟩
      rw [hf] at hlook
      simp only [methV] at hlook
      have HMC := Lib.hid (methMark_calls HD6.out HME.out.1 HME.out.2.1 hlen (by have := HSZ.out; omega) HME.out.2.2 hk)
      rw [← HQ.out] at HMC
      clear hk hf HLK
      go_wp2_with fail
      refine HMC.out.mono ?_
      rintro e W8 hgc
      obtain ⟨A4, c4, rfl, hds, hrs⟩ := HGC.out e W8 hgc
      have HDS := Lib.hid hds
      have HRS := Lib.hid hrs
      clear hgc hds hrs HMC hlook p0 p1 p2 p3 p4 p5 p6 pl
      go_wp2
      go_meet
      case rel =>
        obtain ⟨A9, c9, hD9⟩ := HDS.out
        exact ⟨_, A4, c4, rfl, ⟨new_at rfl _, ⟨A9, c9, hD9.below (by have := HSZ.out; have := hD9.2.1.size; omega) (below_alloc (Below.refl _ _) _)⟩, Kd.R_alloc HRS.out _⟩⟩
    · have hf : fM o.f0 = 49 := by rw [hk]; rfl
      have hlook := HLK.out (by rw [hf]; decide) ⟨by omega, by omega⟩
      rw [hf] at hlook
      simp only [methV] at hlook
      have HMC := Lib.hid (methScan_calls HD6.out HME.out.1 HME.out.2.1 hlen (by have := HSZ.out; omega) HME.out.2.2 hk)
      rw [← HQ.out] at HMC
      clear hk hf HLK
      go_wp2_with fail
      refine HMC.out.mono ?_
      rintro e W8 hgc
      obtain ⟨A4, c4, rfl, hds, hrs⟩ := HGC.out e W8 hgc
      have HDS := Lib.hid hds
      have HRS := Lib.hid hrs
      clear hgc hds hrs HMC hlook p0 p1 p2 p3 p4 p5 p6 pl
      go_wp2
      go_meet
      case rel =>
        obtain ⟨A9, c9, hD9⟩ := HDS.out
        exact ⟨_, A4, c4, rfl, ⟨new_at rfl _, ⟨A9, c9, hD9.below (by have := HSZ.out; have := hD9.2.1.size; omega) (below_alloc (Below.refl _ _) _)⟩, Kd.R_alloc HRS.out _⟩⟩
  obtain ⟨gr, A4, c4, rfl, HA⟩ := hcut
  obtain ⟨hgr, ⟨A9, c9, hD9⟩, hR9⟩ := HA.out
  clear HM6 HD6 HKW p0 p1 p2 p3 p4 p5 p6 pl HA
  have HKW := Lib.hid (HKE.out wc hD9.2.1)
  have HF := Lib.hid (gotD_mk (w := w) (W := wc) (n := (w.heap.size + 2)) (g := w.heap.size + 1) (r := r) (l := r.1) (a := r.2.f0) (b := r.2.f1) (s := r.2.f2) (ks := r.2.f3) rfl (by omega) (by omega) HKW.out.2 (Kd.N_mono hD9.2.2.2 (fun _ h => h.1.1)) (Kd.R_lower hR9 (by omega)) (below_then HB0.out HB0.out.size (show Below W0.heap.size W0 wc by rw [HSZ.out]; exact hD9.2.1)))
  obtain ⟨k0, k1, k2, k3, k4, k5, k6, k7, k8, k9, kl⟩ := ten_cells hD9.2.2.1
  obtain ⟨y0, y1, y2, y3, _, yl⟩ := four_cells hgr
  obtain ⟨z0, z1, z2, z3, _, zl⟩ := four_cells HKW.out.2
  have z0f := blk_frozen HKW.out.2 0
  have z1f := blk_frozen HKW.out.2 1
  have z2f := blk_frozen HKW.out.2 2
  have z3f := blk_frozen HKW.out.2 3
  clear hgr hD9 hR9
  go_upto_region 12 with (fail)
  go_region
  all_goals
    go_wp2
    exact ret_TP Try.results24 rfl rfl rfl (put4_at HKW.out.2) (gotD_drew HF.out)

end Go.Proofs.Ytadhfedbgeenlaa.H

/- A range over a function whose body always goes on; what is yielded may be spoken of by its memory. -/
namespace Go.Proofs.Ytadhfedbgeenlaa.H
open Go.RowKit Go.Proofs.YtadhfedbgeenlaaW.PrintWords Go.Proofs.YtadhfedbgeenlaaW.PrintLast Go.Proofs.YtadhfedbgeenlaaW.PrintMore
set_option linter.unusedVariables false
set_option linter.unusedSimpArgs false

theorem blk_ltO {W : World} {g : Nat} {o : Obj} (h : W.heap[g]? = some o) : g < W.heap.size := (Array.getElem?_eq_some_iff.1 h).1
/-- The body goes on: J holds of one element more; the loop's two blocks lie as they lay. -/
def goesOn (b : Nat) (J : World → Prop) (W : World) : Exit → Act → World → Prop
  | .normal, _, W' => J W' ∧ W'.heap[b]? = W.heap[b]? ∧ W'.heap[b + 1]? = W.heap[b + 1]?
  | _, _, _ => False

theorem wp_range_on {α : Type} {P : Program} {g : Operand} {ps : Array Tmp} {assign body : Code} {Q : Exit → Act → World → Prop} {a : Act} {w : World} {gf : Nat} {lb : Array Value}
    (hg : a.eval g = .func (.func gf) #[] lb) (eg : ∀ args w, (callFunc gf args).run P w = .ok (.enter gf args) w) (enc : α → Value) (hps : ps.size = 1)
    (J : List α → World → Prop) (H : List α → α → World → Prop) (S : List α → Prop)
    (hJb : ∀ xs Wa Wb, J xs Wa → Below Wa.heap.size Wa Wb → J xs Wb) (hJp : ∀ xs W o, J xs W → J xs (W.putObj (w.heap.size + 1) o)) (hHp : ∀ pre x W o, H pre x W → H pre x (W.putObj (w.heap.size + 1) o)) (h0 : J [] w)
    (hcon : ∀ (J' : List α → World → Prop) (W1 : World), W1.heap.size = w.heap.size + 2 → (∀ xs W, J' xs W → J xs W) → (∀ xs Wa Wb, J' xs Wa → Below Wa.heap.size Wa Wb → J' xs Wb) →
      (∀ pre x W, J' pre W → H pre x W → YieldAt Fence.wide 1 P (w.heap.size + 1) #[enc x] W fun e W' => e = .returned (.bool true) ∧ J' (pre ++ [x]) W') → J' [] W1 →
      CallsIn Fence.wide 2 P gf (#[.func (.yield (w.heap.size + 1)) #[] #[]] ++ lb) W1 fun e W' => (∃ v, e = .returned v) ∧ ∃ xs, S xs ∧ J' xs W')
    (a₁ : α → Act) (hassign : ∀ (x : α) (W : World) (K : Act → World → Prop), K (a₁ x) W →
      assign.wpIn (Fence.wide.inRound (w.heap.size + 1)) 1 P (Exit.then K (fun _ _ _ => False)) { tmps := (ps.zip #[enc x]).foldl (fun t (p, v) => t.setIfInBounds p v) a.tmps, defers := [] } W)
    (hbody : ∀ (pre : List α) (x : α) (W : World), J pre W → H pre x W → w.heap.size + 1 < W.heap.size → body.wpIn (Fence.wide.inRound (w.heap.size + 1)) 1 P (goesOn w.heap.size (J (pre ++ [x])) W) (a₁ x) W)
    (hdone : ∀ (xs : List α) (W : World), S xs → J xs W → W.heap[w.heap.size]? = some (.deferred (some [])) → Q .normal { a with defers := { target := .collected w.heap.size, args := #[] } :: a.defers } W) :
    (Code.rangeFunc g ps assign body).wp P Q a w := by
  refine (wpIn_wide (n := 3)).1 ?_
  refine wpIn_rangeFunc ?_
  intro fn hfn
  obtain ⟨rec, hrec⟩ : ∃ rec : LoopState → Loop, rec = fun st => { state := st, pending := none, fn, tmps := a.tmps, params := ps, assign, body, defers := w.heap.size } := ⟨_, rfl⟩
  obtain ⟨W1, hW1⟩ : ∃ W1, (w.alloc (.deferred (some []))).alloc (.loop (rec .ready)) = W1 := ⟨_, rfl⟩
  have hB1 : Below w.heap.size w W1 := by rw [← hW1]; exact below_alloc (below_alloc (Below.refl _ _) _) _
  have hL1 : W1.heap[w.heap.size + 1]? = some (.loop (rec .ready)) := by rw [← hW1]; exact new_at (by simp) _
  have hK1 : W1.heap[w.heap.size]? = some (.deferred (some [])) := by rw [← hW1]; exact alloc_on (new_at rfl _) _
  have hs1 : W1.heap.size = w.heap.size + 2 := by rw [← hW1]; simp
  refine ⟨w.heap.size + 1, [{ target := .collected w.heap.size, args := #[] }], W1, { target := .fn (.func gf) lb, args := #[.func (.yield (w.heap.size + 1)) #[] #[]] }, W1, gf,
    #[.func (.yield (w.heap.size + 1)) #[] #[]] ++ lb, W1, ?_, ?_, fun _ _ => trivial, ?_, fun _ => by omega, ?_⟩
  · rw [← hW1, hrec]; exact run_enterLoop_outer _ _ _ _ _
  · simp only [resolve, hg]
    simp [go_sem]
  · simp [invoke, go_sem, eg]
  · refine (hcon (fun xs W => J xs W ∧ W.heap[w.heap.size + 1]? = some (.loop (rec .ready)) ∧ W.heap[w.heap.size]? = some (.deferred (some []))) W1 hs1 (fun _ _ h => h.1) ?stab ?hY ⟨hJb _ _ _ h0 hB1, hL1, hK1⟩).mono ?_
    case stab => exact fun xs Wa Wb h hb => ⟨hJb _ _ _ h.1 hb, kept_on hb h.2.1, kept_on hb h.2.2⟩
    case hY =>
      rintro pre x W ⟨hj, hl, hk⟩ hx
      have hlt := blk_ltO hl
      have hy := run_yield (P := P) (args := #[enc x]) hl (by rw [hrec]; exact hps.symm)
      rw [hrec] at hy
      refine ⟨fn, _, assign, body, hy, roundIn_of_wpIn hfn (hassign x W _ ?_)⟩
      clear hy
      refine ⟨_, run_beginRound hl (by rw [hrec]), ?_⟩
      have hl2 : (W.putObj (w.heap.size + 1) (.loop { rec .ready with state := .busy })).heap[w.heap.size + 1]? = some (.loop { rec .ready with state := .busy }) := World.putObj_heap_same hlt
      have hk2 : (W.putObj (w.heap.size + 1) (.loop { rec .ready with state := .busy })).heap[w.heap.size]? = some (.deferred (some [])) := (World.putObj_heap_other (by omega)).trans hk
      refine wpIn_mono (hbody pre x _ (hJp _ _ _ hj) (hHp _ _ _ _ hx) (blk_ltO hl2)) ?_
      rintro e a3 W3 hp
      cases e with
      | normal =>
        obtain ⟨hj3, hd3, hr3⟩ := hp
        rw [hl2] at hr3
        rw [hk2] at hd3
        have hr := run_endRound (P := P) none hr3
        refine ⟨_, _, hr, rfl, hJp _ _ _ hj3, ?_, (World.putObj_heap_other (by omega)).trans hd3⟩
        rw [World.putObj_heap_same (blk_ltO hr3), hrec]
        rfl
      | ret => exact hp.elim
      | exit id => exact hp.elim
      | goto t => exact hp.elim
      | panic ch => exact hp.elim
      | outgrown => exact hp.elim
    · rintro e W2 ⟨⟨v, rfl⟩, xs, hS, hj, hl, hk⟩
      refine ⟨none, _, by have := run_endLoop (P := P) hl (by rw [hrec]; simp); rw [hrec] at this; exact this, hdone xs _ hS (hJp _ _ _ hj) ((World.putObj_heap_other (by omega)).trans hk)⟩

end Go.Proofs.Ytadhfedbgeenlaa.H

/- Plain law: the ends of a history, way by way and step by step. -/
namespace Go.Proofs.Ytadhfedbgeenlaa.H
open Go.RowKit Go.Proofs.YtadhfedbgeenlaaW.PrintWords Go.Proofs.YtadhfedbgeenlaaW.PrintLast Go.Proofs.YtadhfedbgeenlaaW.PrintMore
set_option linter.unusedVariables false
set_option linter.unusedSimpArgs false

abbrev EvT := S38
/-- Each one once, where it stood first. -/
def dd {α : Type} [DecidableEq α] : List α → List α
  | [] => []
  | x :: xs => x :: (dd xs).filter (fun y => decide (¬ y = x))
/-- What is not there yet is put behind. -/
def ddGo {α : Type} [DecidableEq α] : List α → List α → List α
  | out, [] => out
  | out, u :: us => if u ∈ out then ddGo out us else ddGo (out ++ [u]) us
theorem mem_dd {α : Type} [DecidableEq α] : ∀ {l : List α} {x : α}, x ∈ dd l ↔ x ∈ l
  | [], x => Iff.rfl
  | y :: ys, x => by
    rw [dd, List.mem_cons, List.mem_cons, List.mem_filter, mem_dd, decide_eq_true_eq]
    constructor
    · rintro (h | h)
      · exact Or.inl h
      · exact Or.inr h.1
    · rintro (h | h)
      · exact Or.inl h
      · by_cases he : x = y
        · exact Or.inl he
        · exact Or.inr ⟨h, he⟩
theorem dd_filter {α : Type} [DecidableEq α] (p : α → Bool) : ∀ (l : List α), (dd l).filter p = dd (l.filter p)
  | [] => rfl
  | x :: xs => by
    rw [dd, List.filter_cons, List.filter_cons]
    by_cases hp : p x = true
    · rw [if_pos hp, if_pos hp, dd, ← dd_filter p xs, List.filter_filter, List.filter_filter]
      congr 1
      apply List.filter_congr
      intro y _
      exact Bool.and_comm _ _
    · rw [if_neg hp, if_neg hp, ← dd_filter p xs, List.filter_filter]
      apply List.filter_congr
      intro y _
      by_cases he : y = x
      · subst he
        rw [Bool.not_eq_true] at hp
        rw [hp]
        rfl
      · rw [decide_eq_true he, Bool.and_true]
theorem dd_append {α : Type} [DecidableEq α] : ∀ (a b : List α), dd (a ++ b) = dd a ++ (dd b).filter (fun y => decide (¬ y ∈ a))
  | [], b => by
    rw [List.nil_append]
    exact (List.filter_eq_self.2 (fun y _ => decide_eq_true (by simp))).symm
  | x :: xs, b => by
    rw [List.cons_append, dd, dd, dd_append xs b, List.filter_append, List.filter_filter, List.cons_append]
    congr 2
    apply List.filter_congr
    intro y _
    by_cases h1 : y = x <;> by_cases h2 : y ∈ xs <;> simp [h1, h2]
theorem ddGo_is {α : Type} [DecidableEq α] : ∀ (us out : List α), ddGo out us = out ++ (dd us).filter (fun y => decide (¬ y ∈ out))
  | [], out => by simp [ddGo, dd]
  | u :: us, out => by
    rw [ddGo, dd]
    by_cases h : u ∈ out
    · rw [if_pos h, ddGo_is us out, List.filter_cons_of_neg (by simp [h]), List.filter_filter]
      congr 1
      apply List.filter_congr
      intro y _
      by_cases h1 : y = u
      · subst h1; simp [h]
      · simp [h1]
    · rw [if_neg h, ddGo_is us (out ++ [u]), List.filter_cons_of_pos (by simp [h]), List.filter_filter, List.append_assoc]
      show out ++ (u :: _) = out ++ (u :: _)
      congr 2
      apply List.filter_congr
      intro y _
      by_cases h1 : y = u <;> by_cases h2 : y ∈ out <;> simp [h1, h2]
theorem ddGo_nil {α : Type} [DecidableEq α] (us : List α) : ddGo [] us = dd us := by
  rw [ddGo_is, List.nil_append]
  exact List.filter_eq_self.2 (fun y _ => decide_eq_true (by simp))
theorem filter_flat {α β : Type} [DecidableEq α] [DecidableEq β] (f : α → List β) (p : β → Bool) : ∀ (l : List α), (l.flatMap f).filter p = l.flatMap (fun x => (f x).filter p)
  | [] => rfl
  | x :: xs => by rw [List.flatMap_cons, List.filter_append, filter_flat f p xs, List.flatMap_cons]
theorem drop_same {α β : Type} [DecidableEq α] [DecidableEq β] (f : α → List β) (x : α) : ∀ (ys : List α), ((ys.filter (fun y => decide (¬ y = x))).flatMap f).filter (fun z => decide (¬ z ∈ f x)) = (ys.flatMap f).filter (fun z => decide (¬ z ∈ f x))
  | [] => rfl
  | y :: ys => by
    by_cases h : y = x
    · subst h
      rw [List.filter_cons_of_neg (by simp), drop_same f y ys, List.flatMap_cons, List.filter_append]
      have : (f y).filter (fun z => decide (¬ z ∈ f y)) = [] := List.filter_eq_nil_iff.2 (fun z hz => by simp [hz])
      rw [this, List.nil_append]
    · rw [List.filter_cons_of_pos (by simp [h]), List.flatMap_cons, List.flatMap_cons, List.filter_append, List.filter_append, drop_same f x ys]
/-- Doubles may be left out ahead of a step. -/
theorem dd_flat {α β : Type} [DecidableEq α] [DecidableEq β] (f : α → List β) : ∀ (l : List α), dd ((dd l).flatMap f) = dd (l.flatMap f)
  | [] => rfl
  | x :: xs => by
    rw [dd, List.flatMap_cons, List.flatMap_cons, dd_append, dd_append]
    congr 1
    rw [dd_filter, drop_same, ← dd_filter, dd_flat f xs]
/-- What there may be behind an event. -/
def behindT (t : List Rec) (e : EvT) : List (List Rec) :=
  if e.f1 = true then (if (doT t e.f0).2 = e.f2 then [(doT t e.f0).1] else []) else [(doT t e.f0).1, t]
def stepT (ts : List (List Rec)) (e : EvT) : List (List Rec) := ddGo [] (ts.flatMap (fun t => behindT t e))
/-- Of a table, each way's end. -/
def waysT : List Rec → List EvT → List (List Rec)
  | t, [] => [t]
  | t, e :: l => (behindT t e).flatMap (fun u => waysT u l)
def endsT (t : List Rec) (l : List EvT) : List (List Rec) := dd (waysT t l)
theorem ways_fold : ∀ (l : List EvT) (ts : List (List Rec)), ts.flatMap (fun t => waysT t l) = l.foldl (fun ts e => ts.flatMap (fun t => behindT t e)) ts
  | [], ts => by
    rw [List.foldl_nil]
    show ts.flatMap (fun t => [t]) = ts
    induction ts with
    | nil => rfl
    | cons x xs ih => rw [List.flatMap_cons, ih]; rfl
  | e :: l, ts => by
    rw [List.foldl_cons, ← ways_fold l]
    rw [List.flatMap_assoc]
    rfl
theorem step_fold : ∀ (l : List EvT) (ts : List (List Rec)), l.foldl stepT (dd ts) = dd (l.foldl (fun ts e => ts.flatMap (fun t => behindT t e)) ts)
  | [], ts => rfl
  | e :: l, ts => by
    rw [List.foldl_cons, List.foldl_cons, ← step_fold l]
    congr 1
    unfold stepT
    rw [ddGo_nil, dd_flat]
/-- Step by step, and way by way: the same ends. -/
theorem ends_is (t : List Rec) (l : List EvT) : l.foldl stepT [t] = endsT t l := by
  have h := step_fold l [t]
  rw [show dd [t] = [t] from rfl] at h
  rw [h, ← ways_fold]
  unfold endsT
  congr 1
  show waysT t l ++ [] = waysT t l
  rw [List.append_nil]

theorem ends_nil_step {ts : List (List Rec)} (h : ts = []) : ∀ (l : List EvT), l.foldl stepT ts = []
  | [] => h
  | e :: l => by
    rw [List.foldl_cons]
    exact ends_nil_step (by rw [h]; rfl) l
theorem foldl_take_succ {l : List EvT} {k : Nat} {e : EvT} (ts : List (List Rec)) (h : l[k]? = some e) : (l.take (k + 1)).foldl stepT ts = stepT ((l.take k).foldl stepT ts) e := by
  rw [List.take_add_one, h, Option.toList_some, List.foldl_append]
  rfl
/-- What can't have been can't be with events behind. -/
theorem ends_mono {t : List Rec} {l : List EvT} {j k : Nat} (hjk : j ≤ k) (h : endsT t (l.take j) = []) : endsT t (l.take k) = [] := by
  rw [← ends_is] at h ⊢
  have e : l.take k = l.take j ++ (l.take k).drop j := by
    rw [show l.take j = (l.take k).take j by rw [List.take_take, Nat.min_eq_left hjk], List.take_append_drop]
  rw [e, List.foldl_append, h]
  exact ends_nil_step rfl _
/-- How far the history may be: the greatest number of first events that may be. -/
def firstT (t : List Rec) (l : List EvT) : Nat → Nat
  | 0 => 0
  | n + 1 => if endsT t (l.take (n + 1)) = [] then firstT t l n else n + 1
theorem firstT_le (t : List Rec) (l : List EvT) : ∀ n, firstT t l n ≤ n
  | 0 => Nat.le_refl _
  | n + 1 => by
    rw [firstT]
    split
    · exact Nat.le_succ_of_le (firstT_le t l n)
    · exact Nat.le_refl _
theorem endsT_zero (t : List Rec) (l : List EvT) : ¬ endsT t (l.take 0) = [] := by
  rw [List.take_zero]
  intro h
  cases h
theorem firstT_some (t : List Rec) (l : List EvT) : ∀ n, ¬ endsT t (l.take (firstT t l n)) = []
  | 0 => endsT_zero t l
  | n + 1 => by
    rw [firstT]
    split
    · exact firstT_some t l n
    · rename_i h
      exact h
theorem firstT_iff (t : List Rec) (l : List EvT) : ∀ n k, k ≤ n → (k ≤ firstT t l n ↔ ¬ endsT t (l.take k) = [])
  | n, k, hk => by
    constructor
    · intro h he
      exact firstT_some t l n (ends_mono h he)
    · intro h
      induction n with
      | zero => omega
      | succ n ih =>
        rw [firstT]
        split
        · rename_i he
          rcases Nat.lt_or_ge n k with h1 | h1
          · have : k = n + 1 := by omega
            subst this
            exact absurd he h
          · exact ih h1
        · exact hk

end Go.Proofs.Ytadhfedbgeenlaa.H

/- What there may be behind an event. -/
namespace Go.Proofs.Ytadhfedbgeenlaa.H
open Go.RowKit Go.Proofs.YtadhfedbgeenlaaW.PrintWords Go.Proofs.YtadhfedbgeenlaaW.PrintLast Go.Proofs.YtadhfedbgeenlaaW.PrintMore
set_option linter.unusedVariables false
set_option linter.unusedSimpArgs false
/-- A table that is yielded: where it lies, its capacity, and what it is. -/
abbrev TabV := Option Addr × Nat × List S54
def encV (x : TabV) : Value := .slice x.1 x.2.2.length x.2.1
def HV (okf : Nat → Prop) (n1 : Nat) (pre : List TabV) (x : TabV) (W : World) : Prop := pre.length < 2 ∧ x.2.2.length ≤ x.2.1 ∧ Kd.F k54 W (fun j => okf j ∨ (pre = [] ∧ n1 ≤ j)) x.1 x.2.2.length x.2.2

set_option maxHeartbeats 4000000 in
set_option maxRecDepth 100000 in
theorem behind_calls (A A11 : Option Addr) (c c11 : Nat) (t : List S54) (e : EvT) (w : World) :
    Calls Try.prog 50 #[.slice A t.length c, .agg #[.int .i64 e.f0.f0, .string e.f0.f1, .string e.f0.f2, .int .i64 e.f0.f3, .string e.f0.f4, .int .i64 e.f0.f5, .string e.f0.f6, .bool e.f1, .int .i64 e.f2.f0, .int .i64 e.f2.f1, .string e.f2.f2, .slice A11 e.f2.f3.length c11]] w fun r w' => r = .returned (.func (.func 69) #[] #[.pointer (some ⟨w.heap.size, 0, none⟩), .pointer (some ⟨w.heap.size + 1, 0, none⟩)]) ∧ w' = (w.alloc (.cells #[.slice A t.length c] 26)).alloc (.cells #[.int .i64 e.f0.f0, .string e.f0.f1, .string e.f0.f2, .int .i64 e.f0.f3, .string e.f0.f4, .int .i64 e.f0.f5, .string e.f0.f6, .bool e.f1, .int .i64 e.f2.f0, .int .i64 e.f2.f1, .string e.f2.f2, .slice A11 e.f2.f3.length c11] 38) := by
  go_enter Try.func50, Try.ntmps50
  go_wp2
  go_ret
  exact ⟨rfl, rfl⟩

set_option maxHeartbeats 4000000 in
set_option maxRecDepth 100000 in
theorem behind1_in (l b1 b2 : Nat) (okf : Nat → Prop) (t : List S54) (e : EvT) (A A11 : Option Addr) (c c11 : Nat) (J : List TabV → World → Prop) (W1 : World)
    (hfact : ∀ xs W, J xs W → W.heap[b1]? = some (.cells #[.slice A t.length c] 26 (0, 0)) ∧ W.heap[b2]? = some (.cells #[.int .i64 e.f0.f0, .string e.f0.f1, .string e.f0.f2, .int .i64 e.f0.f3, .string e.f0.f4, .int .i64 e.f0.f5, .string e.f0.f6, .bool e.f1, .int .i64 e.f2.f0, .int .i64 e.f2.f1, .string e.f2.f2, .slice A11 e.f2.f3.length c11] 38 (0, 0)) ∧ Kd.F k54 W okf A t.length t ∧ Kd.string.C W A11 e.f2.f3.length e.f2.f3)
    (hst : ∀ xs Wa Wb, J xs Wa → Below Wa.heap.size Wa Wb → J xs Wb)
    (hY : ∀ pre x W, J pre W → HV okf W1.heap.size pre x W → YieldAt Fence.wide 1 Try.prog l #[encV x] W fun e W' => e = .returned (.bool true) ∧ J (pre ++ [x]) W')
    (h0 : J [] W1) (hp : PlainT t) (hlen : t.length ≤ 1000) (hct : t.length ≤ c) :
    CallsIn Fence.wide 2 Try.prog 69 (#[.func (.yield l) #[] #[]] ++ #[.pointer (some ⟨b1, 0, none⟩), .pointer (some ⟨b2, 0, none⟩)]) W1 fun r W' => (∃ v, r = .returned v) ∧ ∃ xs, xs.map (fun x => x.2.2) = behindT t e ∧ J xs W' := by
  obtain ⟨g1, g2, hF, hS⟩ := hfact _ _ h0
  have HJ0 := Lib.hid h0
  have HFA := Lib.hid hfact
  have HST := Lib.hid hst
  have HY := Lib.hid hY
  have HDO := Lib.hid (do_calls A c t e.f0 W1 (Kd.F_now hF) hp hlen)
  have HB := Lib.hid (show behindT t e = if e.f1 = true then (if (doT t e.f0).2 = e.f2 then [(doT t e.f0).1] else []) else [(doT t e.f0).1, t] from rfl)
  have HG1 := Lib.hid g1
  have HG2 := Lib.hid g2
  have a0 : W1.cell? ⟨b1, 0, none⟩ = some (.slice A t.length c) := (blk_cell g1 0).trans rfl
  have e0 := (blk_cell g2 0).trans rfl
  obtain ⟨e0, e1, e2, e3, e4, e5, e6, e7, e8, e9, e10, e11, el⟩ := twelve_cells g2
  clear h0 hfact hst hY hF hS g1 g2
  generalize doT t e.f0 = dt at *
  have HVT := Lib.hid (fun (xs : List TabV) (W : World) (h : J xs W) (h2 : xs.length < 2) => (show HV okf W1.heap.size xs (A, c, t) W from ⟨h2, hct, Kd.F_mono (HFA.out xs W h).2.2.1 (fun j hj => .inl hj)⟩))
  have HMID := Lib.hid (fun (W2 : World) (A2 : Option Addr) (c2 : Nat) (hn : NB W2 W1.heap.size (.slice A2 dt.1.length c2) dt.1) (W3 : World) (hb : Below W2.heap.size W2 W3) => (show HV okf W1.heap.size [] (A2, c2, dt.1) W3 from ⟨by decide, (Kd.N_reads' hn).2.1, Kd.F_mono (Kd.F_below (Kd.N_F hn) hb) (fun j hj => .inr ⟨rfl, hj⟩)⟩))
  have HSM := Lib.hid (fun (W : World) (A4 : Option Addr) (c4 : Nat) (hr : Kd.string.C W A4 dt.2.f3.length dt.2.f3) (hb : Below W1.heap.size W1 W) => reply_calls dt.2 e.f2 A4 A11 c4 c11 W hr (HFA.out [] W (HST.out [] W1 W HJ0.out hb)).2.2.2)
  clear hct
  refine callsIn_of_wp Try.func69 rfl trivial ?_ rfl
  simp only [Try.ntmps69, List.size_toArray, List.length_cons, List.length_nil, Nat.reduceAdd, Nat.reduceSub, Array.replicate_succ, Array.replicate_zero, List.push_toArray, List.append_toArray, List.nil_append, List.cons_append]
  cases hk : e.f1
  · have HQ := Lib.hid (show behindT t e = [dt.1, t] by rw [HB.out, hk]; rfl)
    gi_wp2_with (refine ⟨trivial, ?_⟩; gi_at_call 24; refine (callsIn_wide.2 HDO.out).mono ?_; rintro r W2 ⟨A2, c2, v4, rfl, hn2, hr2, hb2⟩; obtain ⟨A4, c4, rfl⟩ := Kd.R_slice hr2; have HX := Lib.hid (And.intro hn2 hb2); have HG22 := Lib.hid (kept_on hb2 HG2.out); obtain ⟨z0, z1, z2, z3, z4, z5, z6, z7, z8, z9, z10, z11, zl⟩ := twelve_cells HG22.out; clear hn2 hr2 hb2 HDO)
    refine ⟨trivial, ?_⟩
    generalize hW3 : W2.alloc (.cells #[.int .i64 dt.2.f0, .int .i64 dt.2.f1, .string dt.2.f2, .slice A4 dt.2.f3.length c4] 34) = W3 at *
    have HB3 := Lib.hid (show Below W2.heap.size W2 W3 by rw [← hW3]; exact below_alloc (Below.refl _ _) _)
    clear hW3 z0 z1 z2 z3 z4 z5 z6 z7 z8 z9 z10 z11 zl
    have HJ3 := Lib.hid (HST.out [] W1 W3 HJ0.out (below_then HX.out.2 HX.out.2.size HB3.out))
    have HG32 := Lib.hid (HFA.out [] W3 HJ3.out).2.1
    obtain ⟨z0, z1, z2, z3, z4, z5, z6, z7, z8, z9, z10, z11, zl⟩ := twelve_cells HG32.out
    obtain ⟨fn, tmps, assign, body, hy, hR⟩ := HY.out [] (A2, c2, dt.1) W3 HJ3.out (HMID.out W2 A2 c2 HX.out.1 W3 HB3.out)
    dsimp only [encV] at hy
    have HR := Lib.hid hR
    clear hR
    gi_wp2
    refine HR.out.mono ?_
    rintro r W4 ⟨rfl, hj4⟩
    have HJ4 := Lib.hid hj4
    have HF4 := Lib.hid (HFA.out _ W4 hj4).1
    have y0 : W4.cell? ⟨b1, 0, none⟩ = some (.slice A t.length c) := (blk_cell HF4.out 0).trans rfl
    obtain ⟨fn2, tmps2, assign2, body2, hy2, hR2⟩ := HY.out _ (A, c, t) W4 hj4 (HVT.out _ W4 hj4 (by simp))
    dsimp only [encV] at hy2
    have HR2 := Lib.hid hR2
    clear hR2 hj4 hy
    gi_wp2
    refine HR2.out.mono ?_
    rintro r W5 ⟨rfl, hj5⟩
    have HJ5 := Lib.hid hj5
    clear hj5 hy2
    gi_wp2
    go_end0
    exact ⟨⟨_, rfl⟩, _, by rw [HQ.out]; rfl, HJ5.out⟩
  by_cases hs : dt.2 = e.f2
  · have HQ := Lib.hid (show behindT t e = [dt.1] by rw [HB.out, hk, if_pos rfl, if_pos hs])
    have hd : decide (dt.2 = e.f2) = true := decide_eq_true hs
    rw [hd] at HSM
    clear hs hd
    gi_wp2_with (refine ⟨trivial, ?_⟩; gi_at_call 24; refine (callsIn_wide.2 HDO.out).mono ?_; rintro r W2 ⟨A2, c2, v4, rfl, hn2, hr2, hb2⟩; obtain ⟨A4, c4, rfl⟩ := Kd.R_slice hr2; have HX := Lib.hid (And.intro hn2 (And.intro hr2 hb2)); have HG22 := Lib.hid (kept_on hb2 HG2.out); obtain ⟨z0, z1, z2, z3, z4, z5, z6, z7, z8, z9, z10, z11, zl⟩ := twelve_cells HG22.out; clear hn2 hr2 hb2 HDO)
    refine ⟨trivial, ?_⟩
    generalize hW3 : W2.alloc (.cells #[.int .i64 dt.2.f0, .int .i64 dt.2.f1, .string dt.2.f2, .slice A4 dt.2.f3.length c4] 34) = W3 at *
    have HB3 := Lib.hid (show Below W2.heap.size W2 W3 by rw [← hW3]; exact below_alloc (Below.refl _ _) _)
    clear hW3 z0 z1 z2 z3 z4 z5 z6 z7 z8 z9 z10 z11 zl
    have HB13 := Lib.hid (below_then HX.out.2.2 HX.out.2.2.size HB3.out)
    refine (callsIn_wide.2 (HSM.out W3 A4 c4 (Kd.C_below (Kd.R_reads' HX.out.2.1).2.2 HB3.out) HB13.out)).mono ?_
    rintro r W4 ⟨rfl, hb4⟩
    have HB4 := Lib.hid hb4
    have HJ4 := Lib.hid (HST.out [] W1 W4 HJ0.out (below_then HB13.out HB13.out.size HB4.out))
    clear hb4 HSM
    have HG42 := Lib.hid (HFA.out [] W4 HJ4.out).2.1
    obtain ⟨z0, z1, z2, z3, z4, z5, z6, z7, z8, z9, z10, z11, zl⟩ := twelve_cells HG42.out
    obtain ⟨fn, tmps, assign, body, hy, hR⟩ := HY.out [] (A2, c2, dt.1) W4 HJ4.out (HMID.out W2 A2 c2 HX.out.1 W4 (below_then HB3.out HB3.out.size HB4.out))
    dsimp only [encV] at hy
    have HR := Lib.hid hR
    clear hR
    gi_wp2
    refine HR.out.mono ?_
    rintro r W5 ⟨rfl, hj5⟩
    have HJ5 := Lib.hid hj5
    clear hj5 hy z0 z1 z2 z3 z4 z5 z6 z7 z8 z9 z10 z11 zl
    gi_wp2
    go_end0
    exact ⟨⟨_, rfl⟩, _, by rw [HQ.out]; rfl, HJ5.out⟩
  · have HQ := Lib.hid (show behindT t e = [] by rw [HB.out, hk, if_pos rfl, if_neg hs])
    have hd : decide (dt.2 = e.f2) = false := decide_eq_false hs
    rw [hd] at HSM
    clear hs hd
    gi_wp2_with (refine ⟨trivial, ?_⟩; gi_at_call 24; refine (callsIn_wide.2 HDO.out).mono ?_; rintro r W2 ⟨A2, c2, v4, rfl, hn2, hr2, hb2⟩; obtain ⟨A4, c4, rfl⟩ := Kd.R_slice hr2; have HX := Lib.hid (And.intro hn2 (And.intro hr2 hb2)); have HG22 := Lib.hid (kept_on hb2 HG2.out); obtain ⟨z0, z1, z2, z3, z4, z5, z6, z7, z8, z9, z10, z11, zl⟩ := twelve_cells HG22.out; clear hn2 hr2 hb2 HDO)
    refine ⟨trivial, ?_⟩
    generalize hW3 : W2.alloc (.cells #[.int .i64 dt.2.f0, .int .i64 dt.2.f1, .string dt.2.f2, .slice A4 dt.2.f3.length c4] 34) = W3 at *
    have HB3 := Lib.hid (show Below W2.heap.size W2 W3 by rw [← hW3]; exact below_alloc (Below.refl _ _) _)
    clear hW3 z0 z1 z2 z3 z4 z5 z6 z7 z8 z9 z10 z11 zl
    have HB13 := Lib.hid (below_then HX.out.2.2 HX.out.2.2.size HB3.out)
    refine (callsIn_wide.2 (HSM.out W3 A4 c4 (Kd.C_below (Kd.R_reads' HX.out.2.1).2.2 HB3.out) HB13.out)).mono ?_
    rintro r W4 ⟨rfl, hb4⟩
    have HB4 := Lib.hid hb4
    have HJ4 := Lib.hid (HST.out [] W1 W4 HJ0.out (below_then HB13.out HB13.out.size HB4.out))
    clear hb4 HSM
    have HG42 := Lib.hid (HFA.out [] W4 HJ4.out).2.1
    obtain ⟨z0, z1, z2, z3, z4, z5, z6, z7, z8, z9, z10, z11, zl⟩ := twelve_cells HG42.out
    gi_wp2
    go_end0
    exact ⟨⟨_, rfl⟩, _, by rw [HQ.out]; rfl, HJ4.out⟩

end Go.Proofs.Ytadhfedbgeenlaa.H

/- A step: rows of tables; what a body of a round does; marks among the deferred calls. -/
namespace Go.Proofs.Ytadhfedbgeenlaa.H
open Go.RowKit Go.Proofs.YtadhfedbgeenlaaW.PrintWords Go.Proofs.YtadhfedbgeenlaaW.PrintLast Go.Proofs.YtadhfedbgeenlaaW.PrintMore
set_option linter.unusedVariables false
set_option linter.unusedSimpArgs false

theorem N_append_run {P : Program} {α : Type} (d : Kd α) (base : Nat) (t ty e : TypeId) (z : Value) (bytes : Nat) (ht : P.underlying t = some (.slice e)) (hinfo : (P.info? e).map (fun i => (i.zero, i.size, i.bytes)) = some (some z, d.sz, bytes)) (hz : z.cells.size = d.sz) (hs0 : 0 < d.sz) (hb0 : 0 < bytes)
    (v : Value) (xs : List α) (p : α) (cs : List Value) (ok okp : Nat → Prop) (W : World) (hp : Kd.FK d W okp p cs) (hokp : ∀ k, okp k → ok k ∧ some k ≠ v.ownBlock) (hfresh : ∀ k, W.heap.size ≤ k → ok k) (HO : Kd.N d e W base ok v xs) (hbase : base ≤ W.heap.size) (hl : (xs.length + 1) * bytes ≤ 140737488355328) :
    ∃ v1 w1, (Builtin.append_ #[t, t] ty #[v, .slice (some ⟨W.heap.size, 0, none⟩) 1 1]).run P (W.alloc (.cells cs.toArray e)) = .ok v1 w1 ∧ Kd.N d e w1 base ok v1 (xs ++ [p]) ∧ W.grownBy w1 v.ownBlock := by
  obtain ⟨h0, rows, hlr, hR, hf⟩ := HO
  obtain ⟨r0, inner, hown, hrep⟩ := Kd.raw_any hR
  obtain ⟨i0, hi, hzz⟩ := Option.map_eq_some_iff.1 hinfo
  simp only [Prod.mk.injEq] at hzz
  obtain ⟨hz0, hz1, hz2⟩ := hzz
  have hcl : cs.length = d.sz := d.K_len (Kd.FK_now hp)
  have hlen : rows.length + 1 ≤ 140737488355328 := by rw [hlr]; exact Nat.le_trans (Nat.le_mul_of_pos_right _ hb0) hl
  obtain ⟨v1, w1, hrun, hown1, hg1, _, hat1⟩ := run_append_own_at (P := P) (W.alloc (.cells cs.toArray e)) base t ty e i0 z d.sz bytes ht hi hz0 hz1 hz2 hz hs0 v rows.length inner (World.ownsRow.alloc hown _) ⟨W.heap.size, 0, none⟩ 1 1 cs (by rw [hcl]; simp)
    (by simpa using World.news_of_block (cs := cs.toArray) (t := e) (fr := (0, 0)) (heap_alloc_new W (.cells cs.toArray e))) (d.K_one (Kd.FK_now hp)) (by simp only [maxLen]; omega) (by rw [hlr]; exact hl) (by simp; omega)
  have hg : W.grownBy w1 v.ownBlock := World.grownBy.trans (World.grownBy_alloc W _ _) hg1
  have hat : v1.ownBlock = v.ownBlock ∨ ∃ b, v1.ownBlock = some b ∧ W.heap.size ≤ b := by
    rcases hat1 with h | h
    · exact .inl h
    · exact .inr ⟨_, h, by simp⟩
  refine ⟨v1, w1, hrun, ?_, hg⟩
  have hr := Kd.R_appended (d := Kd.raw d.sz) (p := cs) (cs := cs) (okp := fun _ => False) r0 hrep (Kd.FK_raw hp) (fun _ h => h.elim) (fun _ _ => trivial) hown1 hg hat
  exact Kd.N_appended h0 hlr hf (ys := [p]) (news := [cs]) rfl (fun j y c hy hc => by
    rcases j with _ | j
    · simp only [List.getElem?_cons_zero, Option.some.injEq] at hy hc
      rw [← hy, ← hc]; exact hp
    · simp at hy) hokp hfresh hr hg hat
theorem wpListIn_append_run {F : Fence} {n : Nat} {P : Program} (w : World) {ops : Array Oper} {rest : List Oper} {o : Oper} {a : Act} {Q : Exit → Act → World → Prop}
    (hg : o.guard = none) (s x : Operand) (t t' : TypeId) (hop : o.op = Op.call { callee := Callee.builtin Builtin.append, args := #[s, x], argTypes := #[t, t'] }) (vs vx : Value) (hs : a.eval s = vs) (hx : a.eval x = vx) {v' : Value} {w' : World}
    (hrun : (Builtin.append_ #[t, t'] o.type #[vs, vx]).run P w = .ok v' w') (h : wpListIn F n P ops Q rest (a.put o.dst v') w') : wpListIn F n P ops Q (o :: rest) a w := by
  refine wpListIn_plain hg fun K hK' => ?_
  unfold Oper.wpIn
  refine ⟨?_, ?_⟩
  · simp [Oper.about, hop, resolve, Target.leads, Sem.run_pure]
  · rw [Oper.semAt_plain F _ _ (by rw [hop]; intro c hc'; cases hc')]
    simp [execOp, hop, resolve, invoke, builtin, hs, hx, hrun, Result.andThen]
    exact hK' _ _ h
theorem ddGo_snoc {α : Type} [DecidableEq α] (u : α) : ∀ (us out : List α), ddGo out (us ++ [u]) = if u ∈ ddGo out us then ddGo out us else ddGo out us ++ [u]
  | [], out => by
    rw [List.nil_append, ddGo, ddGo]
    split <;> rw [ddGo]
  | x :: xs, out => by
    rw [List.cons_append, ddGo, ddGo]
    split
    · exact ddGo_snoc u xs out
    · exact ddGo_snoc u xs _
theorem ddGo_append {α : Type} [DecidableEq α] : ∀ (us vs out : List α), ddGo out (us ++ vs) = ddGo (ddGo out us) vs
  | [], vs, out => by rw [List.nil_append, ddGo]
  | x :: xs, vs, out => by
    rw [List.cons_append, ddGo, ddGo]
    split
    · exact ddGo_append xs vs out
    · exact ddGo_append xs vs _
theorem ddGo_len {α : Type} [DecidableEq α] : ∀ (us out : List α), (ddGo out us).length ≤ out.length + us.length
  | [], out => by rw [ddGo]; omega
  | x :: xs, out => by
    rw [ddGo, List.length_cons]
    split
    · have := ddGo_len xs out; omega
    · have := ddGo_len xs (out ++ [x]); simp at this; omega
/-- Marks alone among the deferred calls: each is taken over, and shut. -/
theorem leaves_marks {P : Program} {n : Nat} {fn : Func} {tmps : Array Value} {R : Ending → World → Prop} : ∀ (Ms : List Nat) (W : World), Ms.Nodup → (∀ D ∈ Ms, W.heap[D]? = some (.deferred (some []))) →
    (∀ W' : World, W.heap.size = W'.heap.size → W'.os = W.os → W'.tape = W.tape → W'.output = W.output → (∀ k, ¬ k ∈ Ms → W'.heap[k]? = W.heap[k]?) → LeavesIn Fence.wide n P fn tmps R [] .returning (W' : World)) →
    LeavesInM Fence.wide n P fn tmps R (Ms.map (fun D => { target := .collected D, args := #[] })) .returning W
  | [], W, _, _, h => h W rfl rfl rfl rfl (fun _ _ => rfl)
  | D :: Ms, W, hn, hd, h => by
    obtain ⟨hn1, hn2⟩ := List.nodup_cons.1 hn
    refine ⟨by simp, .inl ⟨D, W.putObj D (.deferred none), rfl, run_takeDeferred (hd D (List.mem_cons_self ..)), ?_⟩⟩
    refine leaves_marks Ms _ hn2 (fun D' hD' => (World.putObj_heap_other (fun e => hn1 (by first | (rw [e]; exact hD') | (rw [← e]; exact hD')))).trans (hd D' (List.mem_cons_of_mem _ hD'))) (fun W' hs h1 h2 h3 hk => h W' (by rw [← hs]; simp [World.putObj]) h1 h2 h3 (fun k hkn => ?_))
    rw [List.mem_cons, not_or] at hkn
    exact (hk k hkn.2).trans (World.putObj_heap_other hkn.1)

end Go.Proofs.Ytadhfedbgeenlaa.H

/- Lists of tables are the same; slices.EqualFunc of tables. -/
namespace Go.Proofs.Ytadhfedbgeenlaa.H
open Go.RowKit Go.Proofs.YtadhfedbgeenlaaW.PrintWords Go.Proofs.YtadhfedbgeenlaaW.PrintLast Go.Proofs.YtadhfedbgeenlaaW.PrintMore
set_option linter.unusedVariables false
set_option linter.unusedSimpArgs false

def rdRow {α : Type} (xs : List (List α)) (i : Int) : List α := xs.getD i.toNat []
theorem at_row {α : Type} {d : Kd α} {e : Nat} {w : World} {A : Option Addr} {n : Nat} {xs : List (List α)} (h : Kd.C (Kd.slice e d) w A n xs) (i : Int) (h0 : 0 ≤ i) (h1 : i < n) :
    ∃ ad A0 c0, A = some ad ∧ w.cell? (ad.add i.toNat) = some (.slice A0 (rdRow xs i).length c0) ∧ (rdRow xs i).length ≤ c0 ∧ d.C w A0 (rdRow xs i).length (rdRow xs i) := by
  obtain ⟨ad, c, e, _, hK, hc0⟩ := Kd.C_get h ([] : List α) i h0 h1
  have hc : ∀ j u, c[j]? = some u → w.cell? (ad.add (i.toNat * 1 + j)) = some u := hc0
  obtain ⟨A0, c0, rfl, l0, g0⟩ := hK
  exact ⟨ad, A0, c0, e, by have hq := hc 0 _ rfl; rwa [Nat.mul_one, Nat.add_zero] at hq, l0, g0⟩

set_option maxHeartbeats 1000000 in
set_option maxRecDepth 100000 in
theorem tabs2_calls (A B : Option Addr) (ca cb : Nat) (xs ys : List (List S54)) (w : World) (hx : Kd.C (Kd.slice 54 k54) w A xs.length xs) (hy : Kd.C (Kd.slice 54 k54) w B ys.length ys) :
    Calls Try.prog 15 #[.slice A xs.length ca, .slice B ys.length cb] w fun e w' => e = .returned (.bool (decide (xs = ys))) ∧ Below w.heap.size w w' := by
  have hm1 : xs.length ≤ 9223372036854775807 := hx.2.1
  have hm2 : ys.length ≤ 9223372036854775807 := hy.2.1
  have HX := Lib.hid (show ∃ r, r = decide (xs = ys) from ⟨_, rfl⟩)
  obtain ⟨r, hr⟩ := HX.out
  have HR := Lib.hid hr
  rw [← hr]
  clear HX hr
  have HRX := Lib.hid hx; clear hx
  have HRY := Lib.hid hy; clear hy
  go_enter Try.func15, Try.ntmps15
  by_cases d2 : xs.length = ys.length
  rotate_left
  · have d2a : ((xs.length : Int) != ys.length) = true := by simp; omega
    have HQ := Lib.hid (HR.out.trans (decide_eq_false (ne_len d2)))
    clear d2
    go_wp2
    go_ret
    exact ⟨ret_bool HQ.out.symm, Below.refl _ _⟩
  have d2a : ((xs.length : Int) != ys.length) = false := by simp; omega
  have D2 := Lib.hid d2; clear d2
  go_wp2
  go_loopw [5] (fun v W => ∃ k : Nat, k ≤ xs.length ∧ v = .int .i64 k ∧ Aside0 (xs.take k = ys.take k) ∧ Aside0 (Below w.heap.size w W)) (fun v _ => xs.length - (intOf v).toNat)
  case atStart => exact ⟨0, Nat.zero_le _, rfl, ⟨rfl⟩, ⟨Below.refl _ _⟩⟩
  case round =>
    obtain ⟨k, hk, rfl, HE, HB⟩ := hrel
    by_cases hlt : k < xs.length
    rotate_left
    · obtain rfl : k = xs.length := by omega
      have HQ := Lib.hid (HR.out.trans (decide_eq_true (eq_of_take D2.out HE.out)))
      clear hlt
      go_wp2
      go_ret
      exact ⟨ret_bool HQ.out.symm, HB.out⟩
    obtain ⟨ad, A5, c5, hA, h0, hl, hf⟩ := at_row HRX.out k (by omega) (by omega)
    obtain ⟨ad', A5', c5', hA', h0', hl', hf'⟩ := at_row HRY.out k (by omega) (by have := D2.out; omega)
    subst hA; subst hA'
    rw [Int.toNat_natCast] at h0 h0'
    have b1 : (0 : Int) ≤ k := by omega
    have b2 : (k : Int) < xs.length := by omega
    have b3 : (k : Int) < ys.length := by have := D2.out; omega
    have HNX := Lib.hid (fun h => take_next (k := k) ([] : List S54) HE.out hlt (by have := D2.out; omega) (show rdRow xs k = rdRow ys k from h))
    have HNE := Lib.hid (fun h => ne_at (k := k) ([] : List S54) (show ¬ rdRow xs k = rdRow ys k from h))
    generalize rdRow xs k = x at *
    generalize rdRow ys k = y at *
    clear HE
    have HKP := Lib.hid (show ∀ W W2 : World, (W.cell? (ad.add k) = some (.slice A5 x.length c5) ∧ W.cell? (ad'.add k) = some (.slice A5' y.length c5') ∧ Aside0 (Below w.heap.size w W)) → Below W.heap.size W W2 → (W2.cell? (ad.add k) = some (.slice A5 x.length c5) ∧ W2.cell? (ad'.add k) = some (.slice A5' y.length c5') ∧ Aside0 (Below w.heap.size w W2)) from fun W W2 h hb => ⟨kept_cell hb h.1, kept_cell hb h.2.1, ⟨below_then h.2.2.out h.2.2.out.size hb⟩⟩)
    have hs0 : wr.cell? (ad.add k) = some (.slice A5 x.length c5) ∧ wr.cell? (ad'.add k) = some (.slice A5' y.length c5') ∧ Aside0 (Below w.heap.size w wr) := ⟨kept_cell HB.out h0, kept_cell HB.out h0', ⟨HB.out⟩⟩
    obtain ⟨z0, y0, _⟩ := hs0
    have HCC := Lib.hid (fun W (hb : Below w.heap.size w W) => tab2_calls A5 A5' c5 c5' x y W (Kd.C_below hf hb) (Kd.C_below hf' hb))
    clear h0 hl hf h0' hl' hf'
    have hs0 : wr.cell? (ad.add k) = some (.slice A5 x.length c5) ∧ wr.cell? (ad'.add k) = some (.slice A5' y.length c5') ∧ Aside0 (Below w.heap.size w wr) := ⟨z0, y0, ⟨HB.out⟩⟩
    by_cases dd : x = y
    rotate_left
    · have HQ := Lib.hid (HR.out.trans (decide_eq_false (HNE.out dd)))
      rw [decide_eq_false dd] at HCC
      clear dd HNX HNE
      go_wp2_with fail
      go_region_held3 (fun W => W.cell? (ad.add k) = some (.slice A5 x.length c5) ∧ W.cell? (ad'.add k) = some (.slice A5' y.length c5') ∧ Aside0 (Below w.heap.size w W))
        (first | assumption | exact HKP.out _ _ (by assumption) (below_drew (Below.refl _ _)) | go_keep)
        (first | (go_at_call 20; (with_reducible refine (HCC.out _ ?hbx).mono ?_); (case hbx => exact (by assumption : _ ∧ _ ∧ Aside0 (Below w.heap.size w _)).2.2.out); rintro e w2 ⟨rfl, hb2⟩; have hs2 := HKP.out _ _ (by assumption) hb2))
      all_goals
        go_wp2
        go_ret
        exact ⟨ret_bool HQ.out.symm, (by assumption : _ ∧ _ ∧ Aside0 (Below w.heap.size w _)).2.2.out⟩
    have HQ := Lib.hid (HNX.out dd)
    rw [decide_eq_true dd] at HCC
    clear dd HNX HNE
    go_wp2_with fail
    go_region_held3 (fun W => W.cell? (ad.add k) = some (.slice A5 x.length c5) ∧ W.cell? (ad'.add k) = some (.slice A5' y.length c5') ∧ Aside0 (Below w.heap.size w W))
      (first | assumption | exact HKP.out _ _ (by assumption) (below_drew (Below.refl _ _)) | go_keep)
      (first | (go_at_call 20; (with_reducible refine (HCC.out _ ?hbx).mono ?_); (case hbx => exact (by assumption : _ ∧ _ ∧ Aside0 (Below w.heap.size w _)).2.2.out); rintro e w2 ⟨rfl, hb2⟩; have hs2 := HKP.out _ _ (by assumption) hb2))
    all_goals
      go_wp2
      go_roundw
      case rel => exact ⟨k + 1, by omega, by go_num, ⟨HQ.out⟩, ⟨(by assumption : _ ∧ _ ∧ Aside0 (Below w.heap.size w _)).2.2.out⟩⟩
      case measure => simp [intOf]; omega

end Go.Proofs.Ytadhfedbgeenlaa.H

/- The document's SameReply. -/
namespace Go.Proofs.Ytadhfedbgeenlaa.H
open Go.RowKit Go.Proofs.YtadhfedbgeenlaaW.PrintWords Go.Proofs.YtadhfedbgeenlaaW.PrintLast Go.Proofs.YtadhfedbgeenlaaW.PrintMore
set_option linter.unusedVariables false
set_option linter.unusedSimpArgs false

set_option maxHeartbeats 1000000 in
set_option maxRecDepth 100000 in
theorem reply2_calls (x y : S34) (A B : Option Addr) (ca cb : Nat) (w : World) (hx : Kd.string.C w A x.f3.length x.f3) (hy : Kd.string.C w B y.f3.length y.f3) :
    Calls Try.prog 53 #[.agg #[.int .i64 x.f0, .int .i64 x.f1, .string x.f2, .slice A x.f3.length ca], .agg #[.int .i64 y.f0, .int .i64 y.f1, .string y.f2, .slice B y.f3.length cb]] w fun e w' => e = .returned (.bool (decide (x = y))) ∧ Below w.heap.size w w' := by
  have hm1 : x.f3.length ≤ 9223372036854775807 := hx.2.1
  have hm2 : y.f3.length ≤ 9223372036854775807 := hy.2.1
  have HX := Lib.hid (show ∃ r, r = decide (x = y) from ⟨_, rfl⟩)
  obtain ⟨r, hr⟩ := HX.out
  have HR := Lib.hid hr
  rw [← hr]
  clear HX hr
  have HRX := Lib.hid hx; clear hx
  have HRY := Lib.hid hy; clear hy
  generalize hW0 : (w.alloc (.cells #[.int .i64 x.f0, .int .i64 x.f1, .string x.f2, .slice A x.f3.length ca] 34)).alloc (.cells #[.int .i64 y.f0, .int .i64 y.f1, .string y.f2, .slice B y.f3.length cb] 34) = W0
  have HB0 := Lib.hid (show Below w.heap.size w W0 by rw [← hW0]; exact below_alloc (below_alloc (Below.refl _ _) _) _)
  have HK0 := Lib.hid (show W0.heap[w.heap.size]? = some (.cells #[.int .i64 x.f0, .int .i64 x.f1, .string x.f2, .slice A x.f3.length ca] 34 (0, 0)) by rw [← hW0]; exact alloc_on (new_at rfl _) _)
  have HK1 := Lib.hid (show W0.heap[w.heap.size + 1]? = some (.cells #[.int .i64 y.f0, .int .i64 y.f1, .string y.f2, .slice B y.f3.length cb] 34 (0, 0)) by rw [← hW0]; exact new_at (by simp) _)
  have HW0 := Lib.hid hW0; clear hW0
  obtain ⟨k0, k1, k2, k3, _, kl⟩ := four_cells HK0.out
  obtain ⟨j0, j1, j2, j3, _, jl⟩ := four_cells HK1.out
  go_enter Try.func53, Try.ntmps53
  go_upto_region 1 with (fail)
  rw [HW0.out]
  by_cases dd : x.f0 = y.f0
  rotate_left
  · have q := (show (x.f0 != y.f0) = true by simpa using dd)
    have HQ := Lib.hid (HR.out.trans (decide_eq_false (fun e => dd (by rw [e]))))
    clear dd
    go_wp2
    go_ret
    exact ⟨ret_bool HQ.out.symm, HB0.out⟩
  have q0 := (show (x.f0 != y.f0) = false by simpa using dd)
  have E0 := Lib.hid dd; clear dd
  by_cases dd : x.f1 = y.f1
  rotate_left
  · have q := (show (x.f1 != y.f1) = true by simpa using dd)
    have HQ := Lib.hid (HR.out.trans (decide_eq_false (fun e => dd (by rw [e]))))
    clear dd
    go_wp2
    go_ret
    exact ⟨ret_bool HQ.out.symm, HB0.out⟩
  have q1 := (show (x.f1 != y.f1) = false by simpa using dd)
  have E1 := Lib.hid dd; clear dd
  by_cases dd : x.f2 = y.f2
  rotate_left
  · have q := str_no dd
    have HQ := Lib.hid (HR.out.trans (decide_eq_false (fun e => dd (by rw [e]))))
    clear dd
    go_wp2
    go_ret
    exact ⟨ret_bool HQ.out.symm, HB0.out⟩
  have q2 := str_yes dd
  have E2 := Lib.hid dd; clear dd
  by_cases d2 : x.f3.length = y.f3.length
  rotate_left
  · have d2a : ((x.f3.length : Int) != y.f3.length) = true := by simp; omega
    have HQ := Lib.hid (HR.out.trans (decide_eq_false (fun e => d2 (by rw [e]))))
    clear d2
    go_wp2
    go_ret
    exact ⟨ret_bool HQ.out.symm, HB0.out⟩
  have d2a : ((x.f3.length : Int) != y.f3.length) = false := by simp; omega
  have D2 := Lib.hid d2; clear d2
  have HXY := Lib.hid (show x.f3 = y.f3 → x = y from fun h => by
    have e0 := E0.out; have e1 := E1.out; have e2 := E2.out
    cases x; cases y; simp only at *; subst e0; subst e1; subst e2; subst h; rfl)
  obtain ⟨xs, hxs⟩ : ∃ xs, xs = x.f3 := ⟨_, rfl⟩
  obtain ⟨ys, hys⟩ : ∃ ys, ys = y.f3 := ⟨_, rfl⟩
  have HXS := Lib.hid hxs
  have HYS := Lib.hid hys
  rw [← hxs] at HRX HXY D2 hm1 k3 HK0 d2a
  rw [← hys] at HRY HXY D2 hm2 j3 HK1 d2a
  rw [← hxs, ← hys]
  clear hxs hys
  go_wp2
  go_loopw [5] (fun v W => ∃ k : Nat, k ≤ xs.length ∧ v = .int .i64 k ∧ Aside0 (xs.take k = ys.take k) ∧ Aside0 (Below W0.heap.size W0 W)) (fun v _ => xs.length - (intOf v).toNat)
  case atStart => exact ⟨0, Nat.zero_le _, rfl, ⟨rfl⟩, ⟨Below.refl _ _⟩⟩
  case round =>
    obtain ⟨k, hk, rfl, HE, HB⟩ := hrel
    clear k0 k1 k2 k3 kl j0 j1 j2 j3 jl
    obtain ⟨k0, k1, k2, k3, _, kl⟩ := four_cells (kept_on HB.out HK0.out)
    obtain ⟨j0, j1, j2, j3, _, jl⟩ := four_cells (kept_on HB.out HK1.out)
    by_cases hlt : k < xs.length
    rotate_left
    · obtain rfl : k = xs.length := by omega
      have HQ := Lib.hid (HR.out.trans (decide_eq_true (HXY.out (eq_of_take D2.out HE.out))))
      clear hlt
      go_wp2
      go_ret
      exact ⟨ret_bool HQ.out.symm, below_then HB0.out HB0.out.size HB.out⟩
    have HBW := Lib.hid (below_then HB0.out HB0.out.size HB.out)
    obtain ⟨ad, hA, h0⟩ := Kd.at_string (Kd.C_below HRX.out HBW.out) k (by omega) (by omega)
    obtain ⟨ad', hA', h0'⟩ := Kd.at_string (Kd.C_below HRY.out HBW.out) k (by omega) (by have := D2.out; omega)
    subst hA; subst hA'
    rw [Int.toNat_natCast] at h0 h0'
    have b1 : (0 : Int) ≤ k := by omega
    have b2 : (k : Int) < xs.length := by omega
    have b3 : (k : Int) < ys.length := by have := D2.out; omega
    have HNX := Lib.hid (fun h => take_next (k := k) ByteArray.empty HE.out hlt (by have := D2.out; omega) (show rdOf ByteArray.empty xs k = rdOf ByteArray.empty ys k from h))
    have HNE := Lib.hid (fun h => ne_at (k := k) ByteArray.empty (show ¬ rdOf ByteArray.empty xs k = rdOf ByteArray.empty ys k from h))
    generalize rdOf ByteArray.empty xs k = u at *
    generalize rdOf ByteArray.empty ys k = v at *
    clear HE
    by_cases dd : u = v
    rotate_left
    · have q := str_no dd
      have HQ := Lib.hid (HR.out.trans (decide_eq_false (fun e => HNE.out dd (by rw [HXS.out, HYS.out, e]))))
      clear dd
      go_wp2_with fail
      go_big_quiet (fail)
      go_wp2
      go_ret
      exact ⟨ret_bool HQ.out.symm, pw_below_drewN HBW.out _⟩
    have q := str_yes dd
    have HQ := Lib.hid (HNX.out dd); clear dd
    clear HNX HNE
    go_wp2_with fail
    go_big_quiet (fail)
    go_wp2
    go_roundw
    case rel => exact ⟨k + 1, by omega, by go_num, ⟨HQ.out⟩, ⟨pw_below_drewN HB.out _⟩⟩
    case measure => simp [intOf]; omega

end Go.Proofs.Ytadhfedbgeenlaa.H
