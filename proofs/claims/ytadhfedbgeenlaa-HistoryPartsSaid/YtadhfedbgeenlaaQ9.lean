/- Parts of the proof, merged: Ih, Kx, La, Ib0, Ib1, Ib2, Ib3, Ib4, Ib5, Ib6, Ib, Ic, Lb. -/
import Derived.Test.YtadhfedbgeenlaaQ8
import Derived.Test.YtadhfedbgeenlaaLKw
import Derived.BigRegion
/- The document's First. -/
namespace Go.Proofs.Ytadhfedbgeenlaa.H
open Go.RowKit Go.Proofs.YtadhfedbgeenlaaW.PrintWords Go.Proofs.YtadhfedbgeenlaaW.PrintLast Go.Proofs.YtadhfedbgeenlaaW.PrintMore
set_option linter.unusedVariables false
set_option linter.unusedSimpArgs false

def firstE (t : List Rec) (l : List EvT) : Int := if tabOk t = true ∧ evOk l = true then (firstT t l l.length : Int) else 0
theorem evOk_take {l : List EvT} (h : evOk l = true) (n : Nat) : evOk (l.take n) = true := by
  unfold evOk at h ⊢
  rw [Bool.and_eq_true, decide_eq_true_eq, decide_eq_true_eq] at h ⊢
  refine ⟨by rw [List.length_take]; omega, Nat.le_trans ?_ h.2⟩
  exact List.Sublist.countP_le (List.take_sublist n l)

set_option maxHeartbeats 4000000 in
set_option maxRecDepth 100000 in
theorem firstD_calls (t : List Rec) (l : List EvT) (A : Option Addr) (c : Nat) (B : Option Addr) (cb : Nat) (w : World) (hr : Kd.C k54 w A t.length t) (hv : Kd.C k38 w B l.length l) (hcb : l.length ≤ cb) (hct : t.length ≤ c) (hp : PlainT t) (hlen : t.length ≤ 1000) :
    Calls Try.prog 17 #[.slice A t.length c, .slice B l.length cb] w fun e w' => e = .returned (.int .i64 (firstE t l)) ∧ Below w.heap.size w w' := by
  have hml : l.length ≤ 9223372036854775807 := hv.2.1
  have HED := Lib.hid (fun (n : Nat) (hn : n ≤ l.length) (W : World) (hb : Below w.heap.size w W) => endsD_calls t (l.take n) A c B cb W (Kd.C_below hr hb) (Kd.C_below (Kd.C_take hv hn) hb) (by rw [List.length_take]; omega) hct hp hlen)
  have HE0 := Lib.hid (endsD_calls t l A c B cb w hr hv hcb hct hp hlen)
  have HCB := Lib.hid hcb
  obtain ⟨r, hr0⟩ : ∃ r, r = firstE t l := ⟨_, rfl⟩
  have HRR := Lib.hid hr0
  rw [← hr0]
  clear hr0 hr hv hcb hct hp hlen
  go_enter Try.func17, Try.ntmps17
  by_cases hok : tabOk t = true ∧ evOk l = true
  rotate_left
  · have HQ := Lib.hid (HRR.out.trans (if_neg hok))
    have HEE := Lib.hid (show endsE t l = (1, []) from if_neg hok)
    clear hok HED HRR
    rw [HEE.out] at HE0
    go_wp2_with fail
    refine HE0.out.mono ?_
    rintro E W1 ⟨hb, v, rfl, hn⟩
    obtain ⟨A1, c1, rfl⟩ := Kd.N_slice hn
    have HB := Lib.hid hb
    clear hb hn
    go_wp2
    go_ret
    exact ⟨ret_int HQ.out.symm, HB.out⟩
  have HQ := Lib.hid (HRR.out.trans (if_pos hok))
  have HEE := Lib.hid (show endsE t l = (0, endsT t l) from if_pos hok)
  have HOK := Lib.hid hok
  clear hok HRR
  rw [HEE.out] at HE0
  go_wp2_with fail
  refine HE0.out.mono ?_
  rintro E W1 ⟨hb, v, rfl, hn⟩
  obtain ⟨A1, c1, rfl⟩ := Kd.N_slice hn
  have HB1 := Lib.hid hb
  clear hb hn HE0 HEE
  go_wp2
  go_loopw [7] (fun v7 W => ∃ n : Nat, n ≤ l.length ∧ v7 = .int .i64 n ∧ Aside0 (firstT t l l.length = firstT t l n ∧ Below w.heap.size w W)) (fun v7 _ => (intOf v7).toNat)
  case atStart => exact ⟨l.length, Nat.le_refl _, rfl, ⟨rfl, HB1.out⟩⟩
  case round =>
    obtain ⟨n, hn, rfl, HI⟩ := hrel
    by_cases hz : n = 0
    · have HZ := Lib.hid (show r = 0 by rw [HQ.out, HI.out.1, hz]; rfl)
      have hz2 : ¬ (0 : Int) < n := by omega
      have hz3 : decide (0 < n) = false := decide_eq_false (by omega)
      have HB2 := Lib.hid HI.out.2
      clear hz HI HED
      go_wp2
      go_ret
      exact ⟨ret_int HZ.out.symm, HB2.out⟩
    have hz2 : (0 : Int) < n := by omega
    have hz3 : decide (0 < n) = true := decide_eq_true (by omega)
    have hnc : n ≤ cb := Nat.le_trans hn HCB.out
    have hw : IntKind.i64.wrap ((n : Int) - 1) = ((n - 1 : Nat) : Int) := by rw [IntWalk.i64_in _ ⟨by omega, by omega⟩]; omega
    obtain ⟨n1, hn1⟩ : ∃ n1, n = n1 + 1 := ⟨n - 1, by omega⟩
    have HN1 := Lib.hid hn1; clear hn1
    have HEN := Lib.hid (HED.out n hn _ HI.out.2)
    have hlt : (l.take n).length = n := by rw [List.length_take]; omega
    rw [hlt, show endsE t (l.take n) = (0, endsT t (l.take n)) from if_pos ⟨HOK.out.1, evOk_take HOK.out.2 n⟩] at HEN
    have HFS := Lib.hid (show firstT t l n = if endsT t (l.take n) = [] then firstT t l (n - 1) else n by rw [HN1.out]; rfl)
    clear hz hlt HED
    generalize endsT t (l.take n) = es at *
    go_wp2_with fail
    refine HEN.out.mono ?_
    rintro E W2 ⟨hb, v, rfl, hnn⟩
    obtain ⟨A2, c2, rfl⟩ := Kd.N_slice hnn
    have HB2 := Lib.hid (below_then HI.out.2 HI.out.2.size hb)
    have hml2 := (Kd.N_reads' hnn).2.2.2.1
    clear hb hnn HEN
    by_cases he : es = []
    · have hel : es.length = 0 := by rw [he]; rfl
      have HF1 := Lib.hid (HI.out.1.trans (HFS.out.trans (if_pos he)))
      rw [hel]
      clear he hel HFS HI
      go_wp2
      go_roundw
      case rel => exact ⟨n - 1, by omega, rfl, ⟨HF1.out, HB2.out⟩⟩
      case measure => simp [intOf]; omega
    have hel : 0 < es.length := List.length_pos_iff.2 he
    have hel2 : (0 : Int) < es.length := by omega
    have hel3 : decide (0 < es.length) = true := decide_eq_true hel
    have HZ := Lib.hid (show r = n by rw [HQ.out, HI.out.1, HFS.out, if_neg he])
    clear he hel HFS HI
    go_wp2
    go_ret
    exact ⟨ret_int HZ.out.symm, HB2.out⟩

end Go.Proofs.Ytadhfedbgeenlaa.H

/- The program's Ends and First. -/
namespace Go.Proofs.Ytadhfedbgeenlaa.H
open Go.RowKit Go.Proofs.YtadhfedbgeenlaaW.PrintWords Go.Proofs.YtadhfedbgeenlaaW.PrintLast Go.Proofs.YtadhfedbgeenlaaW.PrintMore
set_option linter.unusedVariables false
set_option linter.unusedSimpArgs false
theorem dd_len (us : List (List S54)) : (dd us).length ≤ us.length := by
  have h := ddGo_len us []
  rw [ddGo_nil, List.length_nil, Nat.zero_add] at h
  exact h
theorem behind_plain {t : List S54} (e : EvT) (hp : PlainT t) (hl : t.length ≤ 1000) : ∀ u ∈ behindT t e, PlainT u ∧ u.length ≤ 1000 := fun u hu => by
  have hd : PlainT (doT t e.f0).1 ∧ (doT t e.f0).1.length ≤ 1000 := ⟨doT_plain e.f0 hp, doT_len e.f0 hl⟩
  unfold behindT at hu
  split at hu
  · split at hu
    · rw [List.mem_singleton] at hu; rw [hu]; exact hd
    · cases hu
  · rcases List.mem_cons.1 hu with rfl | hu
    · exact hd
    · rw [List.mem_singleton] at hu; rw [hu]; exact ⟨hp, hl⟩
theorem ways_plain : ∀ (l : List EvT) (t : List S54), PlainT t → t.length ≤ 1000 → ∀ u ∈ waysT t l, PlainT u ∧ u.length ≤ 1000
  | [], t, hp, hl, u, hu => by
    rw [waysT, List.mem_singleton] at hu
    rw [hu]
    exact ⟨hp, hl⟩
  | e :: l, t, hp, hl, u, hu => by
    rw [waysT, List.mem_flatMap] at hu
    obtain ⟨v, hv, hu⟩ := hu
    have hb := behind_plain e hp hl v hv
    exact ways_plain l v hb.1 hb.2 u hu
theorem ends_plain {t : List S54} {l : List EvT} (hp : PlainT t) (hl : t.length ≤ 1000) : ∀ u ∈ endsT t l, PlainT u ∧ u.length ≤ 1000 := fun u hu => ways_plain l t hp hl u (mem_dd.1 hu)
theorem ends_len {t : List S54} {l : List EvT} (n : Nat) (h : l.countP (fun e => !e.f1) ≤ 8) : (endsT t (l.take n)).length ≤ 1000000 := by
  have h1 := dd_len (waysT t (l.take n))
  have h2 := ways_len (l.take n) t
  have h3 : (l.take n).countP (fun e => !e.f1) ≤ 8 := Nat.le_trans (List.Sublist.countP_le (List.take_sublist n l)) h
  have h4 : 2 ^ (l.take n).countP (fun e => !e.f1) ≤ 2 ^ 8 := Nat.pow_le_pow_right (by decide) h3
  show (dd (waysT t (l.take n))).length ≤ 1000000
  omega
def opScan : S36 := ⟨6, ⟨#[]⟩, ⟨#[]⟩, 0, ⟨#[]⟩, 0, ⟨#[]⟩⟩
theorem doT_scan (t : List S54) : (doT t opScan).1 = t := by
  unfold doT
  split
  · unfold doK
    rw [if_pos (show opScan.f0 = 6 from rfl)]
  · rfl
theorem fold_ends (t : List S54) (l : List EvT) (n : Nat) : (l.take n).foldl stepT [t] = endsT t (l.take n) := ends_is t (l.take n)
theorem ends_step {t : List S54} {l : List EvT} {k : Nat} {e : EvT} (h : l[k]? = some e) : stepT (endsT t (l.take k)) e = endsT t (l.take (k + 1)) := by
  rw [← fold_ends, ← fold_ends, foldl_take_succ [t] h]
theorem F_nilL (w : World) (ok : Nat → Prop) : Kd.F (Kd.slice 54 k54) w ok none 0 [] := Kd.N_F (Kd.N_nil (Kd.slice 54 k54) 26 w 0 ok)
theorem C_nilL (w : World) : Kd.C (Kd.slice 54 k54) w none 0 [] := (Kd.N_reads' (Kd.N_nil (Kd.slice 54 k54) 26 w 0 (fun _ => True))).2.2

set_option maxHeartbeats 4000000 in
set_option maxRecDepth 100000 in
theorem endsF_calls (t : List S54) (l : List EvT) (A : Option Addr) (c : Nat) (B : Option Addr) (cb : Nat) (w : World) (hr : Kd.C k54 w A t.length t) (hv : Kd.C k38 w B l.length l) (hcb : l.length ≤ cb) (hp : PlainT t) (hlen : t.length ≤ 1000) :
    Calls Try.prog 13 #[.slice A t.length c, .slice B l.length cb] w fun e w' => Below w.heap.size w w' ∧ ∃ A' c', e = .returned (.tuple #[.slice A' (endsE t l).2.length c', .int .i64 (endsE t l).1]) ∧ Kd.F (Kd.slice 54 k54) w' (fun j => w.heap.size ≤ j) A' (endsE t l).2.length (endsE t l).2 := by
  obtain ⟨r, hr0⟩ : ∃ r, r = endsE t l := ⟨_, rfl⟩
  have HRR := Lib.hid hr0
  rw [← hr0]
  clear hr0
  have hml : l.length ≤ 9223372036854775807 := hv.2.1
  have HT := Lib.hid hr
  have HV := Lib.hid hv
  have HPL := Lib.hid hp
  have HTR := Lib.hid (tabRight_calls A c t w hr hp)
  have HDO := Lib.hid (fun (W : World) (hb : Below w.heap.size w W) => do_calls A c t opScan W (Kd.C_below hr hb) hp hlen)
  clear hr hv hp
  go_enter Try.func13, Try.ntmps13
  cases hto : tabOk t
  · have HQ := Lib.hid (HRR.out.trans (show endsE t l = (1, []) from if_neg (fun h => by rw [hto] at h; cases h.1)))
    rw [hto] at HTR
    clear hto HRR
    go_wp2_with fail
    refine HTR.out.mono ?_
    rintro E W1 ⟨rfl, hb1⟩
    have HB1 := Lib.hid hb1
    clear hb1 HTR
    go_wp2
    go_ret2
    exact ⟨HB1.out, none, 0, by rw [HQ.out]; rfl, by rw [HQ.out]; exact F_nilL _ _⟩
  rw [hto] at HTR
  go_wp2_with fail
  refine HTR.out.mono ?_
  rintro E W1 ⟨rfl, hb1⟩
  have HB1 := Lib.hid hb1
  have HER := Lib.hid (evRight_calls B cb l W1 (Kd.C_below HV.out hb1))
  clear hb1 HTR
  cases heo : evOk l
  · have HQ := Lib.hid (HRR.out.trans (show endsE t l = (1, []) from if_neg (fun h => by rw [heo] at h; cases h.2)))
    rw [heo] at HER
    clear hto heo HRR
    go_wp2_with fail
    refine HER.out.mono ?_
    rintro E W2 ⟨rfl, hb2⟩
    have HB2 := Lib.hid (below_then HB1.out HB1.out.size hb2)
    clear hb2 HER
    go_wp2
    go_ret2
    exact ⟨HB2.out, none, 0, by rw [HQ.out]; rfl, by rw [HQ.out]; exact F_nilL _ _⟩
  have HQ := Lib.hid (HRR.out.trans (show endsE t l = (0, endsT t (l.take l.length)) from by rw [List.take_length]; exact if_pos ⟨hto, heo⟩))
  have HCU := Lib.hid (show l.countP (fun e => !e.f1) ≤ 8 by unfold evOk at heo; rw [Bool.and_eq_true, decide_eq_true_eq, decide_eq_true_eq] at heo; exact heo.2)
  rw [heo] at HER
  clear hto heo HRR
  go_wp2_with fail
  refine HER.out.mono ?_
  rintro E W2 ⟨rfl, hb2⟩
  have HB2 := Lib.hid (below_then HB1.out HB1.out.size hb2)
  have HDO2 := Lib.hid (HDO.out W2 HB2.out)
  clear hb2 HER HDO
  go_wp2_with fail
  refine HDO2.out.mono ?_
  rintro E W3 ⟨A3, c3, v3, rfl, hn3, hr3, hb3⟩
  obtain ⟨A4, c4, rfl⟩ := Kd.R_slice hr3
  rw [doT_scan] at hn3 ⊢
  have HB3 := Lib.hid (below_then HB2.out HB2.out.size hb3)
  have HN3 := Lib.hid hn3
  clear hb3 hn3 hr3 HDO2
  generalize (doT t opScan).2 = rs at *
  generalize hW5 : (W3.alloc (.cells #[.int .i64 rs.f0, .int .i64 rs.f1, .string rs.f2, .slice A4 rs.f3.length c4] 34)).alloc (.cells #[.slice A3 t.length c3] 26) = W5
  have HB5 := Lib.hid (show Below w.heap.size w W5 by rw [← hW5]; exact below_alloc (below_alloc HB3.out _) _)
  have HC5 := Lib.hid (show Kd.F (Kd.slice 54 k54) W5 (fun j => w.heap.size ≤ j) (some ⟨W3.heap.size + 1, 0, none⟩) 1 [t] by
    rw [← hW5]
    have h := NL_one (W := W3.alloc (.cells #[.int .i64 rs.f0, .int .i64 rs.f1, .string rs.f2, .slice A4 rs.f3.length c4] 34)) (base := 0) (ok := fun j => w.heap.size ≤ j) (okp := fun j => W2.heap.size ≤ j) (c := c3) (A := A3) (x := t) (Nat.zero_le _) (Kd.N_reads' HN3.out).2.1 (Kd.F_below (Kd.N_F HN3.out) (below_alloc (Below.refl _ _) _)) (fun j hj => Nat.le_trans HB2.out.size hj) (below_alloc HB3.out _).size
    rw [World.size_alloc] at h
    exact Kd.N_F h)
  have HW5 := Lib.hid hW5; clear hW5
  have HE0 := Lib.hid (show endsT t (l.take 0) = [t] from rfl)
  go_upto_region 5 with (fail)
  rw [HW5.out]
  clear HW5
  go_wp2
  go_loopw [8, 29] (fun v8 v29 W => ∃ (k : Nat) (A8 : Option Addr) (c8 : Nat) (xs : List (List S54)), k ≤ l.length ∧ v29 = .int .i64 k ∧ v8 = .slice A8 xs.length c8 ∧ Aside0 (xs = endsT t (l.take k) ∧ Kd.F (Kd.slice 54 k54) W (fun j => w.heap.size ≤ j) A8 xs.length xs ∧ Below w.heap.size w W)) (fun _ v29 _ => l.length - (intOf v29).toNat)
  case atStart => exact ⟨0, some ⟨W3.heap.size + 1, 0, none⟩, 1, [t], Nat.zero_le _, rfl, rfl, ⟨HE0.out.symm, HC5.out, HB5.out⟩⟩
  case round =>
    obtain ⟨k, A8, c8, xs, hk, rfl, rfl, HI⟩ := hrel
    by_cases hlt : k < l.length
    rotate_left
    · obtain rfl : k = l.length := by omega
      clear hlt
      go_wp2
      go_ret2
      exact ⟨HI.out.2.2, A8, c8, by rw [HQ.out, ← HI.out.1]; rfl, by rw [HQ.out, ← HI.out.1]; exact HI.out.2.1⟩
    obtain ⟨ad, A11, c11, hA, h0, h1, h2, h3, h4, h5, h6, h7, h8, h9, h10, h11, hl11, hf11⟩ := at_T38 HV.out k (by omega) (by omega)
    subst hA
    rw [Int.toNat_natCast] at h0 h1 h2 h3 h4 h5 h6 h7 h8 h9 h10 h11
    replace h0 := kept_cell HI.out.2.2 h0
    replace h1 := kept_cell HI.out.2.2 h1
    replace h2 := kept_cell HI.out.2.2 h2
    replace h3 := kept_cell HI.out.2.2 h3
    replace h4 := kept_cell HI.out.2.2 h4
    replace h5 := kept_cell HI.out.2.2 h5
    replace h6 := kept_cell HI.out.2.2 h6
    replace h7 := kept_cell HI.out.2.2 h7
    replace h8 := kept_cell HI.out.2.2 h8
    replace h9 := kept_cell HI.out.2.2 h9
    replace h10 := kept_cell HI.out.2.2 h10
    replace h11 := kept_cell HI.out.2.2 h11
    have hlk : l[k]? = some (rd_T38 l k) := by
      rw [List.getElem?_eq_getElem hlt]
      congr 1
      simp [rd_T38, List.getD_eq_getElem?_getD, List.getElem?_eq_getElem hlt]
    have HNX := Lib.hid (show stepT xs (rd_T38 l k) = endsT t (l.take (k + 1)) by rw [HI.out.1]; exact ends_step hlk)
    have HXP := Lib.hid (show (∀ u ∈ xs, PlainT u ∧ u.length ≤ 1000) ∧ xs.length ≤ 1000000 by rw [HI.out.1]; exact ⟨ends_plain HPL.out hlen, ends_len k HCU.out⟩)
    generalize rd_T38 l k = e at *
    have HB6 := Lib.hid (below_alloc (Below.refl wr.heap.size wr) (.cells #[.int .i64 e.f0.f0, .string e.f0.f1, .string e.f0.f2, .int .i64 e.f0.f3, .string e.f0.f4, .int .i64 e.f0.f5, .string e.f0.f6, .bool e.f1, .int .i64 e.f2.f0, .int .i64 e.f2.f1, .string e.f2.f2, .slice A11 e.f2.f3.length c11] 38))
    have HSTP := Lib.hid (stepF_calls (fun j => w.heap.size ≤ j ∧ j < wr.heap.size) xs e A8 A11 c8 c11 (wr.alloc (.cells #[.int .i64 e.f0.f0, .string e.f0.f1, .string e.f0.f2, .int .i64 e.f0.f3, .string e.f0.f4, .int .i64 e.f0.f5, .string e.f0.f6, .bool e.f1, .int .i64 e.f2.f0, .int .i64 e.f2.f1, .string e.f2.f2, .slice A11 e.f2.f3.length c11] 38)) (fun j hj => Nat.lt_of_lt_of_le hj.2 HB6.out.size) (Kd.F_below (Kd.F_bound HI.out.2.1) HB6.out) (Kd.C_below hf11 (below_then HI.out.2.2 HI.out.2.2.size HB6.out)) HXP.out.1 HXP.out.2)
    have b1 : (0 : Int) ≤ k := by omega
    have b2 : (k : Int) < l.length := by omega
    clear hlk hl11 hf11
    go_wp2_with fail
    refine HSTP.out.mono ?_
    rintro E W6 ⟨A9, c9, rfl, hc9, hb9⟩
    have HR9 := Lib.hid (And.intro (Kd.F_mono hc9 (fun j hj => hj.elim (fun h => h.1) (fun h => Nat.le_trans (Nat.le_trans HI.out.2.2.size HB6.out.size) h)) : Kd.F (Kd.slice 54 k54) W6 (fun j => w.heap.size ≤ j) A9 (stepT xs e).length (stepT xs e)) (below_then HI.out.2.2 HI.out.2.2.size (below_then HB6.out HB6.out.size hb9)))
    rw [HNX.out] at HR9 ⊢
    clear hc9 hb9 HSTP HNX h0 h1 h2 h3 h4 h5 h6 h7 h8 h9 h10 h11
    generalize hys : endsT t (l.take (k + 1)) = ys at *
    have HYS := Lib.hid hys.symm
    clear hys
    go_wp2
    go_roundw
    case rel => exact ⟨k + 1, A9, c9, ys, by omega, by go_num, rfl, ⟨HYS.out, HR9.out.1, HR9.out.2⟩⟩
    case measure => simp [intOf]; omega
theorem ends_calls (t : List S54) (l : List EvT) (A : Option Addr) (c : Nat) (B : Option Addr) (cb : Nat) (w : World) (hr : Kd.C k54 w A t.length t) (hv : Kd.C k38 w B l.length l) (hcb : l.length ≤ cb) (hp : PlainT t) (hlen : t.length ≤ 1000) :
    Calls Try.prog 13 #[.slice A t.length c, .slice B l.length cb] w fun e w' => Below w.heap.size w w' ∧ ∃ A' c', e = .returned (.tuple #[.slice A' (endsE t l).2.length c', .int .i64 (endsE t l).1]) ∧ Kd.C (Kd.slice 54 k54) w' A' (endsE t l).2.length (endsE t l).2 :=
  (endsF_calls t l A c B cb w hr hv hcb hp hlen).mono fun _ _ ⟨hb, A', c', h1, h2⟩ => ⟨hb, A', c', h1, Kd.F_now h2⟩
theorem first_at {t : List S54} {l : List EvT} {k : Nat} (hk : k < l.length) (h1 : ¬ endsT t (l.take k) = []) (h2 : endsT t (l.take (k + 1)) = []) : firstT t l l.length = k := by
  have a := (firstT_iff t l l.length k (by omega)).2 h1
  have b : ¬ k + 1 ≤ firstT t l l.length := fun h => (firstT_iff t l l.length (k + 1) (by omega)).1 h h2
  omega
theorem first_end {t : List S54} {l : List EvT} (h1 : ¬ endsT t (l.take l.length) = []) : firstT t l l.length = l.length := by
  have a := (firstT_iff t l l.length l.length (Nat.le_refl _)).2 h1
  have b := firstT_le t l l.length
  omega

set_option maxHeartbeats 4000000 in
set_option maxRecDepth 100000 in
theorem first_calls (t : List S54) (l : List EvT) (A : Option Addr) (c : Nat) (B : Option Addr) (cb : Nat) (w : World) (hr : Kd.C k54 w A t.length t) (hv : Kd.C k38 w B l.length l) (hcb : l.length ≤ cb) (hp : PlainT t) (hlen : t.length ≤ 1000) :
    Calls Try.prog 16 #[.slice A t.length c, .slice B l.length cb] w fun e w' => e = .returned (.int .i64 (firstE t l)) ∧ Below w.heap.size w w' := by
  obtain ⟨r, hr0⟩ : ∃ r, r = firstE t l := ⟨_, rfl⟩
  have HRR := Lib.hid hr0
  rw [← hr0]
  clear hr0
  have hml : l.length ≤ 9223372036854775807 := hv.2.1
  have HT := Lib.hid hr
  have HV := Lib.hid hv
  have HPL := Lib.hid hp
  have HTR := Lib.hid (tabRight_calls A c t w hr hp)
  have HCL := Lib.hid (fun (W : World) (hb : Below w.heap.size w W) => cloneR_calls A c t W (fun j => j < w.heap.size) (Kd.F_below (Kd.C_F heap_rec hr) hb) (fun j hj => Nat.lt_of_lt_of_le hj hb.size) hlen)
  clear hr hv hp
  go_enter Try.func16, Try.ntmps16
  cases hto : tabOk t
  · have HQ := Lib.hid (HRR.out.trans (show firstE t l = 0 from if_neg (fun h => by rw [hto] at h; cases h.1)))
    rw [hto] at HTR
    clear hto HRR
    go_wp2_with fail
    refine HTR.out.mono ?_
    rintro E W1 ⟨rfl, hb1⟩
    have HB1 := Lib.hid hb1
    clear hb1 HTR
    go_wp2
    go_ret
    exact ⟨ret_int HQ.out.symm, HB1.out⟩
  rw [hto] at HTR
  go_wp2_with fail
  refine HTR.out.mono ?_
  rintro E W1 ⟨rfl, hb1⟩
  have HB1 := Lib.hid hb1
  have HER := Lib.hid (evRight_calls B cb l W1 (Kd.C_below HV.out hb1))
  clear hb1 HTR
  cases heo : evOk l
  · have HQ := Lib.hid (HRR.out.trans (show firstE t l = 0 from if_neg (fun h => by rw [heo] at h; cases h.2)))
    rw [heo] at HER
    clear hto heo HRR
    go_wp2_with fail
    refine HER.out.mono ?_
    rintro E W2 ⟨rfl, hb2⟩
    have HB2 := Lib.hid (below_then HB1.out HB1.out.size hb2)
    clear hb2 HER
    go_wp2
    go_ret
    exact ⟨ret_int HQ.out.symm, HB2.out⟩
  have HQ := Lib.hid (HRR.out.trans (show firstE t l = (firstT t l l.length : Int) from if_pos ⟨hto, heo⟩))
  have HCU := Lib.hid (show l.countP (fun e => !e.f1) ≤ 8 by unfold evOk at heo; rw [Bool.and_eq_true, decide_eq_true_eq, decide_eq_true_eq] at heo; exact heo.2)
  rw [heo] at HER
  clear hto heo HRR
  go_wp2_with fail
  refine HER.out.mono ?_
  rintro E W2 ⟨rfl, hb2⟩
  have HB2 := Lib.hid (below_then HB1.out HB1.out.size hb2)
  have HCL2 := Lib.hid (HCL.out W2 HB2.out)
  clear hb2 HER HCL
  go_wp2_with fail
  refine HCL2.out.mono ?_
  rintro E W3 ⟨v3, rfl, hn3, hb3⟩
  obtain ⟨A3, c3, rfl⟩ := Kd.N_slice hn3
  have HB3 := Lib.hid (below_then HB2.out HB2.out.size hb3)
  have HN3 := Lib.hid hn3
  clear hb3 hn3 HCL2
  generalize hW5 : W3.alloc (.cells #[.slice A3 t.length c3] 26) = W5
  have HB5 := Lib.hid (show Below w.heap.size w W5 by rw [← hW5]; exact below_alloc HB3.out _)
  have HC5 := Lib.hid (show Kd.C (Kd.slice 54 k54) W5 (some ⟨W3.heap.size, 0, none⟩) 1 [t] by
    rw [← hW5]
    have h := NL_one (W := W3) (base := 0) (ok := fun _ => True) (okp := fun _ => True) (c := c3) (A := A3) (x := t) (Nat.zero_le _) (Kd.N_reads' HN3.out).2.1 (Kd.F_mono (Kd.N_F HN3.out) (fun _ _ => trivial)) (fun _ _ => trivial) trivial
    exact (Kd.N_reads' h).2.2)
  have HW5 := Lib.hid hW5; clear hW5
  have HE0 := Lib.hid (show endsT t (l.take 0) = [t] from rfl)
  go_upto_region 4 with (fail)
  rw [HW5.out]
  clear HW5
  go_wp2
  go_loopw [5, 21] (fun v5 v21 W => ∃ (k : Nat) (A8 : Option Addr) (c8 : Nat) (xs : List (List S54)), k ≤ l.length ∧ v21 = .int .i64 k ∧ v5 = .slice A8 xs.length c8 ∧ Aside0 (xs = endsT t (l.take k) ∧ Kd.C (Kd.slice 54 k54) W A8 xs.length xs ∧ Below w.heap.size w W ∧ ¬ xs = [])) (fun _ v21 _ => l.length - (intOf v21).toNat)
  case atStart => exact ⟨0, some ⟨W3.heap.size, 0, none⟩, 1, [t], Nat.zero_le _, rfl, rfl, ⟨HE0.out.symm, HC5.out, HB5.out, by simp⟩⟩
  case round =>
    obtain ⟨k, A8, c8, xs, hk, rfl, rfl, HI⟩ := hrel
    by_cases hlt : k < l.length
    rotate_left
    · obtain rfl : k = l.length := by omega
      have HQ2 := Lib.hid (show r = (l.length : Int) by rw [HQ.out, first_end (by rw [← HI.out.1]; exact HI.out.2.2.2)])
      clear hlt
      go_wp2
      go_ret
      exact ⟨ret_int HQ2.out.symm, HI.out.2.2.1⟩
    obtain ⟨ad, A11, c11, hA, h0, h1, h2, h3, h4, h5, h6, h7, h8, h9, h10, h11, hl11, hf11⟩ := at_T38 HV.out k (by omega) (by omega)
    subst hA
    rw [Int.toNat_natCast] at h0 h1 h2 h3 h4 h5 h6 h7 h8 h9 h10 h11
    replace h0 := kept_cell HI.out.2.2.1 h0
    replace h1 := kept_cell HI.out.2.2.1 h1
    replace h2 := kept_cell HI.out.2.2.1 h2
    replace h3 := kept_cell HI.out.2.2.1 h3
    replace h4 := kept_cell HI.out.2.2.1 h4
    replace h5 := kept_cell HI.out.2.2.1 h5
    replace h6 := kept_cell HI.out.2.2.1 h6
    replace h7 := kept_cell HI.out.2.2.1 h7
    replace h8 := kept_cell HI.out.2.2.1 h8
    replace h9 := kept_cell HI.out.2.2.1 h9
    replace h10 := kept_cell HI.out.2.2.1 h10
    replace h11 := kept_cell HI.out.2.2.1 h11
    have hlk : l[k]? = some (rd_T38 l k) := by
      rw [List.getElem?_eq_getElem hlt]
      congr 1
      simp [rd_T38, List.getD_eq_getElem?_getD, List.getElem?_eq_getElem hlt]
    have HNX := Lib.hid (show stepT xs (rd_T38 l k) = endsT t (l.take (k + 1)) by rw [HI.out.1]; exact ends_step hlk)
    have HXP := Lib.hid (show (∀ u ∈ xs, PlainT u ∧ u.length ≤ 1000) ∧ xs.length ≤ 1000000 by rw [HI.out.1]; exact ⟨ends_plain HPL.out hlen, ends_len k HCU.out⟩)
    generalize rd_T38 l k = e at *
    have HB6 := Lib.hid (below_alloc (Below.refl wr.heap.size wr) (.cells #[.int .i64 e.f0.f0, .string e.f0.f1, .string e.f0.f2, .int .i64 e.f0.f3, .string e.f0.f4, .int .i64 e.f0.f5, .string e.f0.f6, .bool e.f1, .int .i64 e.f2.f0, .int .i64 e.f2.f1, .string e.f2.f2, .slice A11 e.f2.f3.length c11] 38))
    have HSTP := Lib.hid (step_calls xs e A8 A11 c8 c11 (wr.alloc (.cells #[.int .i64 e.f0.f0, .string e.f0.f1, .string e.f0.f2, .int .i64 e.f0.f3, .string e.f0.f4, .int .i64 e.f0.f5, .string e.f0.f6, .bool e.f1, .int .i64 e.f2.f0, .int .i64 e.f2.f1, .string e.f2.f2, .slice A11 e.f2.f3.length c11] 38)) (Kd.C_below HI.out.2.1 HB6.out) (Kd.C_below hf11 (below_then HI.out.2.2.1 HI.out.2.2.1.size HB6.out)) HXP.out.1 HXP.out.2)
    have b1 : (0 : Int) ≤ k := by omega
    have b2 : (k : Int) < l.length := by omega
    have HFA := Lib.hid (fun (h : endsT t (l.take (k + 1)) = []) => (show r = (k : Int) by rw [HQ.out, first_at hlt (by rw [← HI.out.1]; exact HI.out.2.2.2) h]))
    clear hlk hl11 hf11
    go_wp2_with fail
    refine HSTP.out.mono ?_
    rintro E W6 ⟨A9, c9, rfl, hc9, hb9⟩
    have HR9 := Lib.hid (And.intro hc9 (below_then HI.out.2.2.1 HI.out.2.2.1.size (below_then HB6.out HB6.out.size hb9)))
    rw [HNX.out] at HR9 ⊢
    clear hc9 hb9 HSTP HNX h0 h1 h2 h3 h4 h5 h6 h7 h8 h9 h10 h11
    generalize hys : endsT t (l.take (k + 1)) = ys at *
    have HYS := Lib.hid hys.symm
    clear hys
    by_cases he : ys = []
    · have HQ2 := Lib.hid (HFA.out he)
      subst he
      have z1 : ((([] : List (List S54)).length : Int) == 0) = true := rfl
      go_wp2
      go_ret
      exact ⟨ret_int HQ2.out.symm, HR9.out.2⟩
    have z0 : ¬ ys.length = 0 := fun h => he (List.eq_nil_of_length_eq_zero h)
    have z1 : ((ys.length : Int) == 0) = false := beq_eq_false_iff_ne.mpr (by omega)
    have HNE := Lib.hid he
    clear he
    go_wp2
    go_roundw
    case rel => exact ⟨k + 1, A9, c9, ys, by omega, by go_num, rfl, ⟨HYS.out, HR9.out.1, HR9.out.2, HNE.out⟩⟩
    case measure => simp [intOf]; omega

end Go.Proofs.Ytadhfedbgeenlaa.H

/- The law's Table: plain facts. -/
namespace Go.Proofs.Ytadhfedbgeenlaa.H
open Go.RowKit Go.Proofs.YtadhfedbgeenlaaW.PrintWords Go.Proofs.YtadhfedbgeenlaaW.PrintLast Go.Proofs.YtadhfedbgeenlaaW.PrintMore
set_option linter.unusedVariables false
set_option linter.unusedSimpArgs false

/-- 'carried' -/
abbrev carried : ByteArray := ⟨#[99, 97, 114, 114, 105, 101, 100]⟩
abbrev fieldC (k : Int) : S60 := ⟨9 + k, carried⟩
theorem extra_one {k : Int} (h0 : 0 ≤ k) (h1 : k < 20) : extraOk 2 [fieldC k] = true := by
  have h : k = 0 ∨ k = 1 ∨ k = 2 ∨ k = 3 ∨ k = 4 ∨ k = 5 ∨ k = 6 ∨ k = 7 ∨ k = 8 ∨ k = 9 ∨ k = 10 ∨ k = 11 ∨ k = 12 ∨ k = 13 ∨ k = 14 ∨ k = 15 ∨ k = 16 ∨ k = 17 ∨ k = 18 ∨ k = 19 := by omega
  rcases h with rfl | rfl | rfl | rfl | rfl | rfl | rfl | rfl | rfl | rfl | rfl | rfl | rfl | rfl | rfl | rfl | rfl | rfl | rfl | rfl <;> rfl
theorem others_one {k : Int} (h0 : 0 ≤ k) : others (fieldC k) = true := by
  unfold others
  have h1 : ((9 + k : Int) != 4) = true := by simp; omega
  have h2 : ((9 + k : Int) != 5) = true := by simp; omega
  rw [show (fieldC k).f0 = 9 + k from rfl, h1, h2]
  rfl
theorem tab_set {l : List Rec} {k : Nat} {x : Rec} (h : tabOk l = true) (hk : k < l.length) (hx : recOk 2 x = true) (he : x.f0 = (rd_T54 l k).f0) : tabOk (l.set k x) = true := by
  obtain ⟨h1, h2, h3⟩ := tabOk_iff.1 h
  refine tabOk_iff.2 ⟨fun y hy => ?_, set_rises h2 hk he, by rw [List.length_set]; exact h3⟩
  rcases mem_set hy with rfl | hy
  · exact hx
  · exact h1 y hy
theorem tab_set5 {l : List Rec} {k : Nat} (h : tabOk l = true) (hk : k < l.length) (hp : PlainT l) : tabOk (l.set k { rd_T54 l k with f5 := [fieldC k] }) = true ∧ PlainT (l.set k { rd_T54 l k with f5 := [fieldC k] }) := by
  have h3 := (tabOk_iff.1 h).2.2
  constructor
  · refine tab_set h hk ?_ rfl
    have hx := recOk_parts.1 ((tabOk_iff.1 h).1 _ (rd_mem hk))
    exact recOk_parts.2 ⟨hx.1, extra_one (by omega) (by omega)⟩
  · intro y hy
    rcases mem_set hy with rfl | hy
    · exact ⟨by simp [others_one (show (0 : Int) ≤ k by omega)], by simp⟩
    · exact hp y hy
theorem tab_set2 {l : List Rec} {k : Nat} (h : tabOk l = true) (hk : k < l.length) (hp : PlainT l) : tabOk (l.set k { rd_T54 l k with f2 := 9007199254740992 }) = true ∧ PlainT (l.set k { rd_T54 l k with f2 := 9007199254740992 }) := by
  constructor
  · refine tab_set h hk ?_ rfl
    have hx := recOk_parts.1 ((tabOk_iff.1 h).1 _ (rd_mem hk))
    exact recOk_parts.2 ⟨⟨hx.1.1, hx.1.2.1, hx.1.2.2.1, (by decide : (0 : Int) ≤ 9007199254740992), Int.le_refl _, hx.1.2.2.2.2.2⟩, hx.2⟩
  · exact plain_set hp hk rfl
/-- A row of one field, just made. -/
theorem F_one {W : World} {b : Nat} {f : S60} (h : W.heap[b]? = some (.cells #[.int .i64 f.f0, .string f.f1] 60 (0, 0))) : Kd.F k60 W (fun j => j = b) (some ⟨b, 0, none⟩) 1 [f] := fun W' hW => by
  have h' : W'.heap[b]? = some (.cells #[.int .i64 f.f0, .string f.f1] 60 (0, 0)) := (hW b rfl (blk_lt h)).trans h
  refine ⟨rfl, by decide, fun _ => ⟨⟨b, 0, none⟩, rfl, fun j p hj => ?_⟩⟩
  rcases j with _ | j
  · obtain rfl : f = p := by simpa using hj
    exact ⟨[.int .i64 f.f0, .string f.f1], rfl, k60_mk _ f, fun i u hu => by
      rcases i with _ | _ | i
      · obtain rfl : Value.int .i64 f.f0 = u := by simpa using hu
        rw [Addr.add_lit]
        exact (blk_cell h' 0).trans rfl
      · obtain rfl : Value.string f.f1 = u := by simpa using hu
        rw [Addr.add_lit]
        exact (blk_cell h' 1).trans rfl
      · simp at hu⟩
  · simp at hj

end Go.Proofs.Ytadhfedbgeenlaa.H

/- A raw number's pick. -/
namespace Go.Proofs.Ytadhfedbgeenlaa.H
open Go.RowKit Go.Proofs.YtadhfedbgeenlaaW.PrintWords Go.Proofs.YtadhfedbgeenlaaW.PrintLast Go.Proofs.YtadhfedbgeenlaaW.PrintMore
set_option linter.unusedVariables false
set_option linter.unusedSimpArgs false

def pickI (c n : Int) : Int := (if c < 0 then -(c + 1) else c).tmod n
theorem pickI_bound (c n : Int) (hn : 0 < n) : 0 ≤ pickI c n ∧ pickI c n < n := by
  unfold pickI
  have h : 0 ≤ (if c < 0 then -(c + 1) else c) := by split <;> omega
  exact ⟨Int.tmod_nonneg _ h, Int.tmod_lt_of_pos _ hn⟩

set_option maxHeartbeats 1000000 in
theorem pick21_calls (c n : Int) (hc : InI c) (hn : 0 < n) (hn2 : n ≤ 9223372036854775807) (w : World) : Calls Try.prog 12 #[.int .i64 c, .int .i64 n] w fun e w' => e = .returned (.int .i64 (pickI c n)) ∧ w = w' := by
  have HB := Lib.hid (pickI_bound c n hn)
  obtain ⟨hc1, hc2⟩ := hc
  have hnz : (n == 0) = false := by simp; omega
  have hnz2 : ¬ n = 0 := by omega
  by_cases h : c < 0
  · have HP := Lib.hid (show pickI c n = (-(c + 1)).tmod n by simp [pickI, h])
    have h1 : IntKind.i64.wrap (c + 1) = c + 1 := IntWalk.i64_in _ ⟨by omega, by omega⟩
    have h2 : IntKind.i64.wrap (-(c + 1)) = -(c + 1) := IntWalk.i64_in _ ⟨by omega, by omega⟩
    have h3 : IntKind.i64.wrap ((-(c + 1)).tmod n) = (-(c + 1)).tmod n := by have := HB.out; rw [HP.out] at this; exact IntWalk.i64_in _ ⟨by omega, by omega⟩
    go_enter Try.func12, Try.ntmps12
    go_wp2
    go_ret
    exact ⟨ret_int (by rw [HP.out, Int.neg_tmod]), rfl⟩
  · have HP := Lib.hid (show pickI c n = c.tmod n by simp [pickI, h])
    have h3 : IntKind.i64.wrap (c.tmod n) = c.tmod n := by have := HB.out; rw [HP.out] at this; exact IntWalk.i64_in _ ⟨by omega, by omega⟩
    go_enter Try.func12, Try.ntmps12
    go_wp2
    go_ret
    exact ⟨ret_int (by rw [HP.out, Int.tmod_eq_emod_of_nonneg (by omega)]), rfl⟩

set_option maxHeartbeats 1000000 in
theorem pick12_calls (c n : Int) (hc : InI c) (hn : 0 < n) (hn2 : n ≤ 9223372036854775807) (w : World) : Calls Try.prog 36 #[.int .i64 c, .int .i64 n] w fun e w' => e = .returned (.int .i64 (pickI c n)) ∧ w = w' := by
  have HB := Lib.hid (pickI_bound c n hn)
  obtain ⟨hc1, hc2⟩ := hc
  have hnz : (n == 0) = false := by simp; omega
  have hnz2 : ¬ n = 0 := by omega
  by_cases h : c < 0
  · have HP := Lib.hid (show pickI c n = (-(c + 1)).tmod n by simp [pickI, h])
    have h1 : IntKind.i64.wrap (c + 1) = c + 1 := IntWalk.i64_in _ ⟨by omega, by omega⟩
    have h2 : IntKind.i64.wrap (-(c + 1)) = -(c + 1) := IntWalk.i64_in _ ⟨by omega, by omega⟩
    have h3 : IntKind.i64.wrap ((-(c + 1)).tmod n) = (-(c + 1)).tmod n := by have := HB.out; rw [HP.out] at this; exact IntWalk.i64_in _ ⟨by omega, by omega⟩
    go_enter Try.func36, Try.ntmps36
    go_wp2
    go_ret
    exact ⟨ret_int (by rw [HP.out, Int.neg_tmod]), rfl⟩
  · have HP := Lib.hid (show pickI c n = c.tmod n by simp [pickI, h])
    have h3 : IntKind.i64.wrap (c.tmod n) = c.tmod n := by have := HB.out; rw [HP.out] at this; exact IntWalk.i64_in _ ⟨by omega, by omega⟩
    go_enter Try.func36, Try.ntmps36
    go_wp2
    go_ret
    exact ⟨ret_int (by rw [HP.out, Int.tmod_eq_emod_of_nonneg (by omega)]), rfl⟩


end Go.Proofs.Ytadhfedbgeenlaa.H

/- Keys of raw numbers. -/
namespace Go.Proofs.Ytadhfedbgeenlaa.H
open Go.RowKit Go.Proofs.YtadhfedbgeenlaaW.PrintWords Go.Proofs.YtadhfedbgeenlaaW.PrintLast Go.Proofs.YtadhfedbgeenlaaW.PrintMore
set_option linter.unusedVariables false
set_option linter.unusedSimpArgs false

set_option maxHeartbeats 8000000 in
set_option maxRecDepth 100000 in
theorem key0_calls (n : Int) (hn : InI n) (hk : pickI n 24 = 0 ∨ pickI n 24 = 1 ∨ pickI n 24 = 2 ∨ pickI n 24 = 3) (w : World) :
    Calls Try.prog 37 #[.int .i64 n] w fun e w' => (∃ s, e = .returned (.string s)) ∧ Below w.heap.size w w' := by
  have HP := Lib.hid (fun w => pick12_calls n 24 hn (by decide) (by decide) w)
  generalize pickI n 24 = k at *
  go_enter Try.func37, Try.ntmps37
  go_wp2_with fail
  refine (HP.out _).mono ?_
  rintro e w' ⟨rfl, rfl⟩
  clear HP
  rcases hk with rfl | rfl | rfl | rfl
  all_goals
    go_upto_region 2 with (fail)
    go_region
    all_goals
      go_wp2
      go_ret
      exact ⟨⟨_, rfl⟩, below_drew (below_alloc (below_alloc (Below.refl _ _) _) _)⟩

end Go.Proofs.Ytadhfedbgeenlaa.H

/- Keys of raw numbers. -/
namespace Go.Proofs.Ytadhfedbgeenlaa.H
open Go.RowKit Go.Proofs.YtadhfedbgeenlaaW.PrintWords Go.Proofs.YtadhfedbgeenlaaW.PrintLast Go.Proofs.YtadhfedbgeenlaaW.PrintMore
set_option linter.unusedVariables false
set_option linter.unusedSimpArgs false

set_option maxHeartbeats 8000000 in
set_option maxRecDepth 100000 in
theorem key1_calls (n : Int) (hn : InI n) (hk : pickI n 24 = 4 ∨ pickI n 24 = 5 ∨ pickI n 24 = 6 ∨ pickI n 24 = 7) (w : World) :
    Calls Try.prog 37 #[.int .i64 n] w fun e w' => (∃ s, e = .returned (.string s)) ∧ Below w.heap.size w w' := by
  have HP := Lib.hid (fun w => pick12_calls n 24 hn (by decide) (by decide) w)
  generalize pickI n 24 = k at *
  go_enter Try.func37, Try.ntmps37
  go_wp2_with fail
  refine (HP.out _).mono ?_
  rintro e w' ⟨rfl, rfl⟩
  clear HP
  rcases hk with rfl | rfl | rfl | rfl
  all_goals
    go_upto_region 2 with (fail)
    go_region
    all_goals
      go_wp2
      go_ret
      exact ⟨⟨_, rfl⟩, below_drew (below_alloc (below_alloc (Below.refl _ _) _) _)⟩

end Go.Proofs.Ytadhfedbgeenlaa.H

/- Keys of raw numbers. -/
namespace Go.Proofs.Ytadhfedbgeenlaa.H
open Go.RowKit Go.Proofs.YtadhfedbgeenlaaW.PrintWords Go.Proofs.YtadhfedbgeenlaaW.PrintLast Go.Proofs.YtadhfedbgeenlaaW.PrintMore
set_option linter.unusedVariables false
set_option linter.unusedSimpArgs false

set_option maxHeartbeats 8000000 in
set_option maxRecDepth 100000 in
theorem key2_calls (n : Int) (hn : InI n) (hk : pickI n 24 = 8 ∨ pickI n 24 = 9 ∨ pickI n 24 = 10 ∨ pickI n 24 = 11) (w : World) :
    Calls Try.prog 37 #[.int .i64 n] w fun e w' => (∃ s, e = .returned (.string s)) ∧ Below w.heap.size w w' := by
  have HP := Lib.hid (fun w => pick12_calls n 24 hn (by decide) (by decide) w)
  generalize pickI n 24 = k at *
  go_enter Try.func37, Try.ntmps37
  go_wp2_with fail
  refine (HP.out _).mono ?_
  rintro e w' ⟨rfl, rfl⟩
  clear HP
  rcases hk with rfl | rfl | rfl | rfl
  all_goals
    go_upto_region 2 with (fail)
    go_region
    all_goals
      go_wp2
      go_ret
      exact ⟨⟨_, rfl⟩, below_drew (below_alloc (below_alloc (Below.refl _ _) _) _)⟩

end Go.Proofs.Ytadhfedbgeenlaa.H

/- Keys of raw numbers. -/
namespace Go.Proofs.Ytadhfedbgeenlaa.H
open Go.RowKit Go.Proofs.YtadhfedbgeenlaaW.PrintWords Go.Proofs.YtadhfedbgeenlaaW.PrintLast Go.Proofs.YtadhfedbgeenlaaW.PrintMore
set_option linter.unusedVariables false
set_option linter.unusedSimpArgs false

set_option maxHeartbeats 8000000 in
set_option maxRecDepth 100000 in
theorem key3_calls (n : Int) (hn : InI n) (hk : pickI n 24 = 12 ∨ pickI n 24 = 13 ∨ pickI n 24 = 14 ∨ pickI n 24 = 15) (w : World) :
    Calls Try.prog 37 #[.int .i64 n] w fun e w' => (∃ s, e = .returned (.string s)) ∧ Below w.heap.size w w' := by
  have HP := Lib.hid (fun w => pick12_calls n 24 hn (by decide) (by decide) w)
  generalize pickI n 24 = k at *
  go_enter Try.func37, Try.ntmps37
  go_wp2_with fail
  refine (HP.out _).mono ?_
  rintro e w' ⟨rfl, rfl⟩
  clear HP
  rcases hk with rfl | rfl | rfl | rfl
  all_goals
    go_upto_region 2 with (fail)
    go_region
    all_goals
      go_wp2
      go_ret
      exact ⟨⟨_, rfl⟩, below_drew (below_alloc (below_alloc (Below.refl _ _) _) _)⟩

end Go.Proofs.Ytadhfedbgeenlaa.H

/- Keys of raw numbers. -/
namespace Go.Proofs.Ytadhfedbgeenlaa.H
open Go.RowKit Go.Proofs.YtadhfedbgeenlaaW.PrintWords Go.Proofs.YtadhfedbgeenlaaW.PrintLast Go.Proofs.YtadhfedbgeenlaaW.PrintMore
set_option linter.unusedVariables false
set_option linter.unusedSimpArgs false

set_option maxHeartbeats 8000000 in
set_option maxRecDepth 100000 in
theorem key4_calls (n : Int) (hn : InI n) (hk : pickI n 24 = 16 ∨ pickI n 24 = 17 ∨ pickI n 24 = 18 ∨ pickI n 24 = 19) (w : World) :
    Calls Try.prog 37 #[.int .i64 n] w fun e w' => (∃ s, e = .returned (.string s)) ∧ Below w.heap.size w w' := by
  have HP := Lib.hid (fun w => pick12_calls n 24 hn (by decide) (by decide) w)
  generalize pickI n 24 = k at *
  go_enter Try.func37, Try.ntmps37
  go_wp2_with fail
  refine (HP.out _).mono ?_
  rintro e w' ⟨rfl, rfl⟩
  clear HP
  rcases hk with rfl | rfl | rfl | rfl
  all_goals
    go_upto_region 2 with (fail)
    go_region
    all_goals
      go_wp2
      go_ret
      exact ⟨⟨_, rfl⟩, below_drew (below_alloc (below_alloc (Below.refl _ _) _) _)⟩

end Go.Proofs.Ytadhfedbgeenlaa.H

/- Keys of raw numbers. -/
namespace Go.Proofs.Ytadhfedbgeenlaa.H
open Go.RowKit Go.Proofs.YtadhfedbgeenlaaW.PrintWords Go.Proofs.YtadhfedbgeenlaaW.PrintLast Go.Proofs.YtadhfedbgeenlaaW.PrintMore
set_option linter.unusedVariables false
set_option linter.unusedSimpArgs false

set_option maxHeartbeats 8000000 in
set_option maxRecDepth 100000 in
theorem key5_calls (n : Int) (hn : InI n) (hk : pickI n 24 = 20 ∨ pickI n 24 = 21 ∨ pickI n 24 = 22 ∨ pickI n 24 = 23) (w : World) :
    Calls Try.prog 37 #[.int .i64 n] w fun e w' => (∃ s, e = .returned (.string s)) ∧ Below w.heap.size w w' := by
  have HP := Lib.hid (fun w => pick12_calls n 24 hn (by decide) (by decide) w)
  generalize pickI n 24 = k at *
  go_enter Try.func37, Try.ntmps37
  go_wp2_with fail
  refine (HP.out _).mono ?_
  rintro e w' ⟨rfl, rfl⟩
  clear HP
  rcases hk with rfl | rfl | rfl | rfl
  all_goals
    go_upto_region 2 with (fail)
    go_region
    all_goals
      go_wp2
      go_ret
      exact ⟨⟨_, rfl⟩, below_drew (below_alloc (below_alloc (Below.refl _ _) _) _)⟩

end Go.Proofs.Ytadhfedbgeenlaa.H

/- Keys of raw numbers, joined. -/
namespace Go.Proofs.Ytadhfedbgeenlaa.H
open Go.RowKit Go.Proofs.YtadhfedbgeenlaaW.PrintWords Go.Proofs.YtadhfedbgeenlaaW.PrintLast Go.Proofs.YtadhfedbgeenlaaW.PrintMore
set_option linter.unusedVariables false
set_option linter.unusedSimpArgs false

theorem key_calls (n : Int) (hn : InI n) (w : World) :
    Calls Try.prog 37 #[.int .i64 n] w fun e w' => (∃ s, e = .returned (.string s)) ∧ Below w.heap.size w w' := by
  obtain ⟨p0, p1⟩ := pickI_bound n 24 (by decide)
  by_cases h1 : pickI n 24 < 4
  · exact key0_calls n hn (by omega) w
  by_cases h2 : pickI n 24 < 8
  · exact key1_calls n hn (by omega) w
  by_cases h3 : pickI n 24 < 12
  · exact key2_calls n hn (by omega) w
  by_cases h4 : pickI n 24 < 16
  · exact key3_calls n hn (by omega) w
  by_cases h5 : pickI n 24 < 20
  · exact key4_calls n hn (by omega) w
  exact key5_calls n hn (by omega) w

end Go.Proofs.Ytadhfedbgeenlaa.H

/- The law's Op. -/
namespace Go.Proofs.Ytadhfedbgeenlaa.H
open Go.RowKit Go.Proofs.YtadhfedbgeenlaaW.PrintWords Go.Proofs.YtadhfedbgeenlaaW.PrintLast Go.Proofs.YtadhfedbgeenlaaW.PrintMore
set_option linter.unusedVariables false
set_option linter.unusedSimpArgs false

theorem ret_O1 {fn : Func} {a : Act} {W : World} {g p : Nat} {v0 v1 v2 v3 v4 v5 v6 : Value} {R : Ending → World → Prop} (hres : fn.results = #[.cell p 36]) (hp : a.tmps.getD p undef = .pointer (some ⟨g, 0, none⟩)) (hd : a.defers = [])
    (hg : W.heap[g]? = some (.cells #[v0, v1, v2, v3, v4, v5, v6] 36 (0, 0))) (hR : R (.returned (.agg #[v0, v1, v2, v3, v4, v5, v6])) W) : bodyPost Try.prog fn R .ret a W := by
  refine bodyPost_ret (v := .agg #[v0, v1, v2, v3, v4, v5, v6]) ?_ hd hR
  exact results_single hres (.cell g 36 _ (0, 0) _ hp hg Try.underlying36 rfl (by kernel_rfl) .nil)
def OpB (w : World) (x : S58) (W : World) : Prop :=
  Below w.heap.size w W ∧ W.heap[w.heap.size]? = some (.cells #[.int .i64 x.f0, .int .i64 x.f1, .int .i64 x.f2, .int .i64 x.f3, .int .i64 x.f4] 58 (0, 0)) ∧ W.heap[w.heap.size + 1]? = some (.cells #[.int .i64 0, .string ⟨#[]⟩, .string ⟨#[]⟩, .int .i64 0, .string ⟨#[]⟩, .int .i64 0, .string ⟨#[]⟩] 36 (0, 0))
theorem OpB.below {w W W' : World} {x : S58} (h : OpB w x W) (hb : Below W.heap.size W W') : OpB w x W' := ⟨below_then h.1 h.1.size hb, kept_on hb h.2.1, kept_on hb h.2.2⟩
/-- The op under way: the raw numbers, the result's variable, the op's. -/
def OpW (w : World) (x : S58) (g : Nat) (o : S36) (W : World) : Prop :=
  Below w.heap.size w W ∧ w.heap.size + 2 ≤ g ∧ W.heap[w.heap.size]? = some (.cells #[.int .i64 x.f0, .int .i64 x.f1, .int .i64 x.f2, .int .i64 x.f3, .int .i64 x.f4] 58 (0, 0)) ∧ W.heap[w.heap.size + 1]? = some (.cells #[.int .i64 0, .string ⟨#[]⟩, .string ⟨#[]⟩, .int .i64 0, .string ⟨#[]⟩, .int .i64 0, .string ⟨#[]⟩] 36 (0, 0)) ∧ W.heap[g]? = some (.cells #[.int .i64 o.f0, .string o.f1, .string o.f2, .int .i64 o.f3, .string o.f4, .int .i64 o.f5, .string o.f6] 36 (0, 0))
theorem OpW.below {w W W' : World} {x : S58} {g : Nat} {o : S36} (h : OpW w x g o W) (hb : Below W.heap.size W W') : OpW w x g o W' :=
  ⟨below_then h.1 h.1.size hb, h.2.1, kept_on hb h.2.2.1, kept_on hb h.2.2.2.1, kept_on hb h.2.2.2.2⟩
theorem OpW.al {w W : World} {x : S58} {g : Nat} {o : S36} (h : OpW w x g o W) (o' : Obj) : OpW w x g o (W.alloc o') := h.below (below_alloc (Below.refl _ _) _)
theorem OpW.put {w W : World} {x : S58} {g : Nat} {o o' : S36} (h : OpW w x g o W) (j : Nat) (u : Value) (e : (#[.int .i64 o.f0, .string o.f1, .string o.f2, .int .i64 o.f3, .string o.f4, .int .i64 o.f5, .string o.f6] : Array Value).setIfInBounds j u = #[.int .i64 o'.f0, .string o'.f1, .string o'.f2, .int .i64 o'.f3, .string o'.f4, .int .i64 o'.f5, .string o'.f6]) : OpW w x g o' (W.setCell ⟨g, j, none⟩ u) :=
  ⟨h.1.setCell (p := ⟨g, j, none⟩) (by have := h.2.1; show w.heap.size ≤ g; omega) _, h.2.1, blk_far h.2.2.1 (p := ⟨g, j, none⟩) (by have := h.2.1; show w.heap.size ≠ g; omega) _, blk_far h.2.2.2.1 (p := ⟨g, j, none⟩) (by have := h.2.1; show w.heap.size + 1 ≠ g; omega) _, blk_put h.2.2.2.2 j u e⟩

theorem OpW.put1 {w W : World} {x : S58} {g : Nat} {o : S36} (h : OpW w x g o W) (v : ByteArray) : OpW w x g { o with f1 := v } (W.setCell ⟨g, 1, none⟩ (.string v)) := h.put (o' := { o with f1 := v }) 1 _ rfl
theorem OpW.put2 {w W : World} {x : S58} {g : Nat} {o : S36} (h : OpW w x g o W) (v : ByteArray) : OpW w x g { o with f2 := v } (W.setCell ⟨g, 2, none⟩ (.string v)) := h.put (o' := { o with f2 := v }) 2 _ rfl
theorem OpW.put4 {w W : World} {x : S58} {g : Nat} {o : S36} (h : OpW w x g o W) (v : ByteArray) : OpW w x g { o with f4 := v } (W.setCell ⟨g, 4, none⟩ (.string v)) := h.put (o' := { o with f4 := v }) 4 _ rfl
theorem OpW.put5 {w W : World} {x : S58} {g : Nat} {o : S36} (h : OpW w x g o W) (v : Int) : OpW w x g { o with f5 := v } (W.setCell ⟨g, 5, none⟩ (.int .i64 v)) := h.put (o' := { o with f5 := v }) 5 _ rfl
theorem OpW.put6 {w W : World} {x : S58} {g : Nat} {o : S36} (h : OpW w x g o W) (v : ByteArray) : OpW w x g { o with f6 := v } (W.setCell ⟨g, 6, none⟩ (.string v)) := h.put (o' := { o with f6 := v }) 6 _ rfl
set_option maxHeartbeats 8000000 in
set_option maxRecDepth 100000 in
theorem op_calls (x : S58) (w : World) (hx : InI x.f0 ∧ InI x.f1 ∧ InI x.f2 ∧ InI x.f3 ∧ InI x.f4) :
    Calls Try.prog 22 #[.agg #[.int .i64 x.f0, .int .i64 x.f1, .int .i64 x.f2, .int .i64 x.f3, .int .i64 x.f4]] w fun e w' => (∃ o : S36, e = .returned (.agg #[.int .i64 o.f0, .string o.f1, .string o.f2, .int .i64 o.f3, .string o.f4, .int .i64 o.f5, .string o.f6])) ∧ Below w.heap.size w w' := by
  generalize hW0 : (w.alloc (.cells #[.int .i64 x.f0, .int .i64 x.f1, .int .i64 x.f2, .int .i64 x.f3, .int .i64 x.f4] 58)).alloc (.cells #[.int .i64 0, .string ⟨#[]⟩, .string ⟨#[]⟩, .int .i64 0, .string ⟨#[]⟩, .int .i64 0, .string ⟨#[]⟩] 36) = W0
  have HB0 := Lib.hid (show Below w.heap.size w W0 by rw [← hW0]; exact below_alloc (below_alloc (Below.refl _ _) _) _)
  have HK0 := Lib.hid (show W0.heap[w.heap.size]? = some (.cells #[.int .i64 x.f0, .int .i64 x.f1, .int .i64 x.f2, .int .i64 x.f3, .int .i64 x.f4] 58 (0, 0)) by rw [← hW0]; exact alloc_on (new_at rfl _) _)
  have HK1 := Lib.hid (show W0.heap[w.heap.size + 1]? = some (.cells #[.int .i64 0, .string ⟨#[]⟩, .string ⟨#[]⟩, .int .i64 0, .string ⟨#[]⟩, .int .i64 0, .string ⟨#[]⟩] 36 (0, 0)) by rw [← hW0]; exact new_at (by simp) _)
  have HSZ := Lib.hid (show W0.heap.size = w.heap.size + 2 by rw [← hW0]; simp)
  have HW0 := Lib.hid hW0; clear hW0
  have HP0 := Lib.hid (fun w => pick12_calls x.f0 6 hx.1 (by decide) (by decide) w)
  have HP3 := Lib.hid (fun w => pick12_calls x.f3 4 hx.2.2.2.1 (by decide) (by decide) w)
  have HKE := Lib.hid (fun w => key_calls x.f1 hx.2.1 w)
  have HX := Lib.hid hx
  have HB6 := Lib.hid (pickI_bound x.f0 6 (by decide))
  have HB4 := Lib.hid (pickI_bound x.f3 4 (by decide))
  clear hx
  generalize pickI x.f0 6 = k0 at *
  generalize pickI x.f3 4 = k3 at *
  have hw : IntKind.i64.wrap (1 + k0) = 1 + k0 := by have := HB6.out; exact IntWalk.i64_in _ ⟨by omega, by omega⟩
  obtain ⟨r0, r1, r2, r3, r4, _, rl⟩ := five_cells HK0.out
  go_enter Try.func22, Try.ntmps22
  go_upto_region 1 with (fail)
  rw [HW0.out]
  clear HW0
  go_cut [3] (fun v3 W => ∃ (g : Nat) (o : S36), v3 = .pointer (some ⟨g, 0, none⟩) ∧ Aside0 (OpW w x g o W ∧ o.f0 = 1 + k0))
  case first =>
    have HSA := Lib.hid (show W0.drew.cell? ⟨w.heap.size, 0, none⟩ = some (.int .i64 x.f0) ∧ W0.drew.cell? ⟨w.heap.size, 1, none⟩ = some (.int .i64 x.f1) ∧ W0.drew.cell? ⟨w.heap.size, 3, none⟩ = some (.int .i64 x.f3) from ⟨r0, r1, r3⟩)
    have HSB := Lib.hid (fun (W W2 : World) (h : W.cell? ⟨w.heap.size, 0, none⟩ = some (.int .i64 x.f0) ∧ W.cell? ⟨w.heap.size, 1, none⟩ = some (.int .i64 x.f1) ∧ W.cell? ⟨w.heap.size, 3, none⟩ = some (.int .i64 x.f3)) (hb : Below W.heap.size W W2) => (show W2.cell? ⟨w.heap.size, 0, none⟩ = some (.int .i64 x.f0) ∧ W2.cell? ⟨w.heap.size, 1, none⟩ = some (.int .i64 x.f1) ∧ W2.cell? ⟨w.heap.size, 3, none⟩ = some (.int .i64 x.f3) from ⟨kept_cell hb h.1, kept_cell hb h.2.1, kept_cell hb h.2.2⟩))
    have HSE := Lib.hid (fun (W : World) (j : Nat) (u : Value) (h : W.cell? ⟨w.heap.size, 0, none⟩ = some (.int .i64 x.f0) ∧ W.cell? ⟨w.heap.size, 1, none⟩ = some (.int .i64 x.f1) ∧ W.cell? ⟨w.heap.size, 3, none⟩ = some (.int .i64 x.f3)) => (show (W.setCell ⟨W0.heap.size, j, none⟩ u).cell? ⟨w.heap.size, 0, none⟩ = some (.int .i64 x.f0) ∧ (W.setCell ⟨W0.heap.size, j, none⟩ u).cell? ⟨w.heap.size, 1, none⟩ = some (.int .i64 x.f1) ∧ (W.setCell ⟨W0.heap.size, j, none⟩ u).cell? ⟨w.heap.size, 3, none⟩ = some (.int .i64 x.f3) from by
      have hne : w.heap.size ≠ W0.heap.size := by have := HSZ.out; omega
      have e : ∀ q, (W.setCell ⟨W0.heap.size, j, none⟩ u).cell? ⟨w.heap.size, q, none⟩ = W.cell? ⟨w.heap.size, q, none⟩ := fun q => World.cell?_of_block (Below.heap_setCell W ⟨W0.heap.size, j, none⟩ u w.heap.size hne)
      exact ⟨(e 0).trans h.1, (e 1).trans h.2.1, (e 3).trans h.2.2⟩))
    have HBZ := Lib.hid (show Below W0.heap.size W0 (W0.alloc (.cells #[.int .i64 0, .string ⟨#[]⟩, .string ⟨#[]⟩, .int .i64 0, .string ⟨#[]⟩, .int .i64 0, .string ⟨#[]⟩] 36)).drew from below_drew (below_alloc (Below.refl _ _) _))
    have HZZ := Lib.hid (show (W0.alloc (.cells #[.int .i64 0, .string ⟨#[]⟩, .string ⟨#[]⟩, .int .i64 0, .string ⟨#[]⟩, .int .i64 0, .string ⟨#[]⟩] 36)).drew.heap[W0.heap.size]? = some (.cells #[.int .i64 0, .string ⟨#[]⟩, .string ⟨#[]⟩, .int .i64 0, .string ⟨#[]⟩, .int .i64 0, .string ⟨#[]⟩] 36 (0, 0)) from new_at (W := W0) rfl _)
    have HSZ1 := Lib.hid (show (W0.alloc (.cells #[.int .i64 0, .string ⟨#[]⟩, .string ⟨#[]⟩, .int .i64 0, .string ⟨#[]⟩, .int .i64 0, .string ⟨#[]⟩] 36)).drew.cell? ⟨w.heap.size, 0, none⟩ = some (.int .i64 x.f0) ∧ (W0.alloc (.cells #[.int .i64 0, .string ⟨#[]⟩, .string ⟨#[]⟩, .int .i64 0, .string ⟨#[]⟩, .int .i64 0, .string ⟨#[]⟩] 36)).drew.cell? ⟨w.heap.size, 1, none⟩ = some (.int .i64 x.f1) ∧ (W0.alloc (.cells #[.int .i64 0, .string ⟨#[]⟩, .string ⟨#[]⟩, .int .i64 0, .string ⟨#[]⟩, .int .i64 0, .string ⟨#[]⟩] 36)).drew.cell? ⟨w.heap.size, 3, none⟩ = some (.int .i64 x.f3) from HSB.out W0 _ HSA.out HBZ.out)
    have HSAL := Lib.hid (fun (W : World) (o : Obj) (h : W.cell? ⟨w.heap.size, 0, none⟩ = some (.int .i64 x.f0) ∧ W.cell? ⟨w.heap.size, 1, none⟩ = some (.int .i64 x.f1) ∧ W.cell? ⟨w.heap.size, 3, none⟩ = some (.int .i64 x.f3)) => (show (W.alloc o).cell? ⟨w.heap.size, 0, none⟩ = some (.int .i64 x.f0) ∧ (W.alloc o).cell? ⟨w.heap.size, 1, none⟩ = some (.int .i64 x.f1) ∧ (W.alloc o).cell? ⟨w.heap.size, 3, none⟩ = some (.int .i64 x.f3) from HSB.out W _ h (below_alloc (Below.refl _ _) _)))
    go_region_held3 (fun W => W.cell? ⟨w.heap.size, 0, none⟩ = some (.int .i64 x.f0) ∧ W.cell? ⟨w.heap.size, 1, none⟩ = some (.int .i64 x.f1) ∧ W.cell? ⟨w.heap.size, 3, none⟩ = some (.int .i64 x.f3))
      (first | with_reducible assumption | with_reducible exact HSA.out | with_reducible exact HSZ1.out | with_reducible exact HSAL.out _ _ (by with_reducible assumption) | ((repeat (with_reducible refine HSE.out _ _ _ ?_)); with_reducible assumption))
      (first
        | (go_at_call 37; (with_reducible refine (HKE.out W0.drew).mono ?_); rintro E w2 ⟨⟨s, rfl⟩, hb2⟩; have HB2 := Lib.hid (show Below W0.heap.size W0 w2 from ⟨hb2.os, hb2.tape, hb2.output, hb2.size, hb2.block⟩); have hs2 := HSB.out W0 w2 HSA.out HB2.out; clear hb2)
        | (go_at_call 37; (with_reducible refine (HKE.out (W0.alloc (.cells #[.int .i64 0, .string ⟨#[]⟩, .string ⟨#[]⟩, .int .i64 0, .string ⟨#[]⟩, .int .i64 0, .string ⟨#[]⟩] 36)).drew).mono ?_); rintro E w2 ⟨⟨s, rfl⟩, hb2⟩; have HZ2 := Lib.hid (kept_on hb2 HZZ.out); have HB2 := Lib.hid (below_then HBZ.out HBZ.out.size hb2); have hs2 := HSB.out W0 w2 HSA.out HB2.out; clear hb2; obtain ⟨z0, z1, z2, z3, z4, z5, z6, _, zl⟩ := seven_cells HZ2.out; have z0f := blk_frozen HZ2.out 0; have z1f := blk_frozen HZ2.out 1; have z2f := blk_frozen HZ2.out 2; have z3f := blk_frozen HZ2.out 3; have z4f := blk_frozen HZ2.out 4; have z5f := blk_frozen HZ2.out 5; have z6f := blk_frozen HZ2.out 6)
        | (go_at_call 36; (with_reducible first | refine (HP0.out _).mono ?_ | refine (HP3.out _).mono ?_); rintro E w2 ⟨rfl, rfl⟩))
    all_goals
      go_wp2
      go_meet
      case rel =>
        have hob : OpB w x w2 := OpB.below ⟨HB0.out, HK0.out, HK1.out⟩ HB2.out
        have hsz : w.heap.size + 2 ≤ w2.heap.size := by have := HSZ.out; have := HB2.out.size; omega
        first
          | (have hq := HZ2.out; exact ⟨_, ⟨1 + k0, s, ⟨#[]⟩, k3, ⟨#[]⟩, 0, ⟨#[]⟩⟩, rfl, ⟨OpW.put (o := ⟨1 + k0, s, ⟨#[]⟩, k3, ⟨#[]⟩, 0, ⟨#[]⟩⟩) (OpW.put (o := ⟨1 + k0, s, ⟨#[]⟩, k3, ⟨#[]⟩, 0, ⟨#[]⟩⟩) (OpW.put (o := ⟨1 + k0, s, ⟨#[]⟩, k3, ⟨#[]⟩, 0, ⟨#[]⟩⟩) (OpW.put (o := ⟨1 + k0, s, ⟨#[]⟩, 0, ⟨#[]⟩, 0, ⟨#[]⟩⟩) (OpW.put (o := ⟨1 + k0, s, ⟨#[]⟩, 0, ⟨#[]⟩, 0, ⟨#[]⟩⟩) (OpW.put (o := ⟨1 + k0, ⟨#[]⟩, ⟨#[]⟩, 0, ⟨#[]⟩, 0, ⟨#[]⟩⟩) (OpW.put (o := ⟨0, ⟨#[]⟩, ⟨#[]⟩, 0, ⟨#[]⟩, 0, ⟨#[]⟩⟩) ⟨hob.1, (by have := HSZ.out; omega), hob.2.1, hob.2.2, hq⟩ 0 _ rfl) 1 _ rfl) 2 _ rfl) 3 _ rfl) 4 _ rfl) 5 _ rfl) 6 _ rfl, rfl⟩⟩)
          | exact ⟨_, ⟨1 + k0, s, ⟨#[]⟩, k3, ⟨#[]⟩, 0, ⟨#[]⟩⟩, rfl, ⟨⟨below_alloc hob.1 _, hsz, alloc_on hob.2.1 _, alloc_on hob.2.2 _, new_at rfl _⟩, rfl⟩⟩
  obtain ⟨g, o, rfl, HA⟩ := hcut
  have HW := Lib.hid HA.out.1
  have HKD := Lib.hid HA.out.2
  obtain ⟨g0, g1, g2, g3, g4, g5, g6, _, gl⟩ := seven_cells HA.out.1.2.2.2.2
  have HV4 := Lib.hid (fun w => pick12_calls x.f2 4 HX.out.2.2.1 (by decide) (by decide) w)
  have HV50 := Lib.hid (fun w => pick12_calls x.f2 50 HX.out.2.2.1 (by decide) (by decide) w)
  have HN3 := Lib.hid (fun w => pick12_calls x.f4 3 HX.out.2.2.2.2 (by decide) (by decide) w)
  have HU4 := Lib.hid (pickI_bound x.f2 4 (by decide))
  have HU3 := Lib.hid (pickI_bound x.f4 3 (by decide))
  generalize pickI x.f2 4 = v4 at *
  generalize pickI x.f2 50 = v50 at *
  generalize pickI x.f4 3 = n3 at *
  clear r0 r1 r2 r3 r4 rl HA HKE HP0 HP3
  go_upto_region 2 with (fail)
  go_cut [16] (fun v16 W => v16 = .int .i64 o.f0 ∧ Aside0 (OpW w x g o W))
  case first =>
    go_wp2
    go_meet
    case rel => exact ⟨rfl, ⟨HW.out⟩⟩
  obtain ⟨rfl, HA⟩ := hcut
  clear HW g0 g1 g2 g3 g4 g5 g6 gl
  refine (by assumption : ∀ (a : Act) (w : World), Code.wp _ _ _ a w → _) _ _ ?_
  go_cut [17] (fun v17 W => Aside0 (∃ o' : S36, OpW w x g o' W))
  case first =>
    have HW := Lib.hid HA.out
    clear HA
    obtain ⟨r0, r1, r2, r3, r4, _, rl⟩ := five_cells HW.out.2.2.1
    obtain ⟨g0, g1, g2, g3, g4, g5, g6, _, gl⟩ := seven_cells HW.out.2.2.2.2
    have g1f := blk_frozen HW.out.2.2.2.2 1
    have g2f := blk_frozen HW.out.2.2.2.2 2
    have g4f := blk_frozen HW.out.2.2.2.2 4
    have g5f := blk_frozen HW.out.2.2.2.2 5
    have g6f := blk_frozen HW.out.2.2.2.2 6
    have hcc : o.f0 = 1 ∨ o.f0 = 2 ∨ o.f0 = 3 ∨ o.f0 = 4 ∨ o.f0 = 5 ∨ o.f0 = 6 := by have := HKD.out; have := HB6.out; omega
    have hne1 : ¬ g = w.heap.size := by have := HW.out.2.1; omega
    have hne2 : ¬ w.heap.size = g := by have := HW.out.2.1; omega
    have hv : v4 = 0 ∨ v4 = 1 ∨ v4 = 2 ∨ v4 = 3 := by have := HU4.out; omega
    have hn : n3 = 0 ∨ n3 = 1 ∨ n3 = 2 := by have := HU3.out; omega
    have HL := Lib.hid (fun (W : World) (o' : Obj) (h : OpW w x g o W) => (show OpW w x g o (W.alloc o') from h.below (below_alloc (Below.refl _ _) _)))
    rcases hcc with hk | hk | hk | hk | hk | hk
    · have q2 : (o.f0 == 2) = false := by rw [hk]; rfl
      have q4 : (o.f0 == 4) = false := by rw [hk]; rfl
      have q5 : (o.f0 == 5) = false := by rw [hk]; rfl
      have q6 : (o.f0 == 6) = false := by rw [hk]; rfl
      clear hk
      go_wp2
      go_meet
      case rel => exact ⟨o, HW.out⟩
    · have q2 : (o.f0 == 2) = true := by rw [hk]; rfl
      have q4 : (o.f0 == 4) = false := by rw [hk]; rfl
      have q5 : (o.f0 == 5) = false := by rw [hk]; rfl
      have q6 : (o.f0 == 6) = false := by rw [hk]; rfl
      clear hk
      rcases hv with rfl | rfl | rfl | rfl
      all_goals
        go_wp2_with fail
        refine (HV4.out _).mono ?_
        rintro E w2 ⟨rfl, rfl⟩
        go_wp2
        go_meet
        case rel => exact ⟨_, OpW.al (OpW.put2 HW.out _) _⟩
    · have q2 : (o.f0 == 2) = false := by rw [hk]; rfl
      have q4 : (o.f0 == 4) = false := by rw [hk]; rfl
      have q5 : (o.f0 == 5) = false := by rw [hk]; rfl
      have q6 : (o.f0 == 6) = false := by rw [hk]; rfl
      clear hk
      go_wp2
      go_meet
      case rel => exact ⟨o, HW.out⟩
    · have q2 : (o.f0 == 2) = false := by rw [hk]; rfl
      have q4 : (o.f0 == 4) = true := by rw [hk]; rfl
      have q5 : (o.f0 == 5) = false := by rw [hk]; rfl
      have q6 : (o.f0 == 6) = false := by rw [hk]; rfl
      clear hk
      rcases hv with rfl | rfl | rfl | rfl
      all_goals
        go_wp2_with fail
        refine (HV4.out _).mono ?_
        rintro E w2 ⟨rfl, rfl⟩
        go_wp2
        go_meet
        case rel => exact ⟨_, OpW.al (OpW.put2 HW.out _) _⟩
    · have q2 : (o.f0 == 2) = false := by rw [hk]; rfl
      have q4 : (o.f0 == 4) = false := by rw [hk]; rfl
      have q5 : (o.f0 == 5) = true := by rw [hk]; rfl
      have q6 : (o.f0 == 6) = false := by rw [hk]; rfl
      clear hk
      rcases hn with rfl | rfl | rfl
      all_goals
        go_wp2_with fail
        refine (HV50.out _).mono ?_
        rintro E w2 ⟨rfl, rfl⟩
        go_wp2_with fail
        refine (HN3.out _).mono ?_
        rintro E w2 ⟨rfl, rfl⟩
        go_wp2
        go_meet
        case rel => exact ⟨_, OpW.al (OpW.put6 (OpW.put5 HW.out _) _) _⟩
    · have q2 : (o.f0 == 2) = false := by rw [hk]; rfl
      have q4 : (o.f0 == 4) = false := by rw [hk]; rfl
      have q5 : (o.f0 == 5) = false := by rw [hk]; rfl
      have q6 : (o.f0 == 6) = true := by rw [hk]; rfl
      clear hk
      rcases hv with rfl | rfl | rfl | rfl
      all_goals
        rcases hn with rfl | rfl | rfl
        all_goals
          go_wp2_with fail
          refine (HV4.out _).mono ?_
          rintro E w2 ⟨rfl, rfl⟩
          go_wp2_with fail
          refine (HN3.out _).mono ?_
          rintro E w2 ⟨rfl, rfl⟩
          go_wp2
          go_meet
          case rel => first | exact ⟨_, OpW.al (OpW.put4 HW.out _) _⟩ | exact ⟨_, OpW.al (OpW.put1 (OpW.put4 HW.out _) _) _⟩
  rename Aside0 _ => HA
  obtain ⟨o', hw'⟩ := HA.out
  have HK := Lib.hid hw'
  clear hw' HA
  obtain ⟨g0, g1, g2, g3, g4, g5, g6, _, gl⟩ := seven_cells HK.out.2.2.2.2
  obtain ⟨z0, z1, z2, z3, z4, z5, z6, _, zl⟩ := seven_cells HK.out.2.2.2.1
  have z0f := blk_frozen HK.out.2.2.2.1 0
  have z1f := blk_frozen HK.out.2.2.2.1 1
  have z2f := blk_frozen HK.out.2.2.2.1 2
  have z3f := blk_frozen HK.out.2.2.2.1 3
  have z4f := blk_frozen HK.out.2.2.2.1 4
  have z5f := blk_frozen HK.out.2.2.2.1 5
  have z6f := blk_frozen HK.out.2.2.2.1 6
  go_wp2
  exact ret_O1 Try.results22 rfl rfl (blk_put (blk_put (blk_put (blk_put (blk_put (blk_put (blk_put HK.out.2.2.2.1 0 _ rfl) 1 _ rfl) 2 _ rfl) 3 _ rfl) 4 _ rfl) 5 _ rfl) 6 _ rfl) ⟨⟨o', rfl⟩, below_set (below_set (below_set (below_set (below_set (below_set (below_set HK.out.1 (by omega)) (by omega)) (by omega)) (by omega)) (by omega)) (by omega)) (by omega)⟩

end Go.Proofs.Ytadhfedbgeenlaa.H

/- The law's Table. -/
namespace Go.Proofs.Ytadhfedbgeenlaa.H
open Go.RowKit Go.Proofs.YtadhfedbgeenlaaW.PrintWords Go.Proofs.YtadhfedbgeenlaaW.PrintLast Go.Proofs.YtadhfedbgeenlaaW.PrintMore
set_option linter.unusedVariables false
set_option linter.unusedSimpArgs false
def InR (x : S58) : Prop := InI x.f0 ∧ InI x.f1 ∧ InI x.f2 ∧ InI x.f3 ∧ InI x.f4
/-- A table of one's own, under way. -/
def TabW (w : World) (A : Option Addr) (c : Nat) (t : List S54) (W : World) : Prop := NB W w.heap.size (.slice A t.length c) t ∧ Below w.heap.size w W ∧ tabOk t = true ∧ PlainT t
theorem tabW_set5 {w W : World} {g c k b : Nat} {t : List S54} (h : TabW w (some ⟨g, 0, none⟩) c t W) (hk : k < t.length) (hb : b = W.heap.size) :
    TabW w (some ⟨g, 0, none⟩) c (t.set k { rd_T54 t k with f5 := [fieldC k] }) ((W.alloc (.cells #[.int .i64 (9 + k), .string carried] 60)).setCell ⟨g, k * 6 + 5, none⟩ (.slice (some ⟨b, 0, none⟩) 1 1)) := by
  obtain ⟨hN, hB, hT, hP⟩ := h
  subst hb
  have hbg := Kd.N_base hN g (by simp [Value.ownBlock])
  have hgl := Kd.N_lt hN g (by simp [Value.ownBlock])
  have hN1 := Kd.N_alloc hN (.cells #[.int .i64 (9 + k), .string carried] 60)
  obtain ⟨A5, c5, h0, h1, h2, h3, h4, h5, hl5, hF5, hfr⟩ := atN hN1 k hk
  have hF := F_one (f := fieldC k) (new_at (W := W) rfl (.cells #[.int .i64 (9 + k), .string carried] 60))
  have hs := N_set1 (u := .slice (some ⟨W.heap.size, 0, none⟩) 1 1) (x' := { rd_T54 t k with f5 := [fieldC k] }) hN1 k hk 5 (by decide) h0 h1 h2 h3 h4 h5 (k54_mkF _ (fun j => w.heap.size ≤ j ∧ j ≠ g) { rd_T54 t k with f5 := [fieldC k] } (Nat.le_refl 1) (Kd.F_mono hF (fun j hj => ⟨by rw [hj]; exact hB.size, by omega⟩)))
  have ht := tab_set5 hT hk hP
  refine ⟨?_, (below_alloc hB _).setCell (p := ⟨g, k * 6 + 5, none⟩) hbg _, ht.1, ht.2⟩
  rw [List.length_set]
  exact hs
theorem tabW_set2 {w W : World} {g c k : Nat} {t : List S54} (h : TabW w (some ⟨g, 0, none⟩) c t W) (hk : k < t.length) : TabW w (some ⟨g, 0, none⟩) c (t.set k { rd_T54 t k with f2 := 9007199254740992 }) (W.setCell ⟨g, k * 6 + 2, none⟩ (.int .i64 9007199254740992)) := by
  obtain ⟨hN, hB, hT, hP⟩ := h
  have hbg := Kd.N_base hN g (by simp [Value.ownBlock])
  obtain ⟨A5, c5, h0, h1, h2, h3, h4, h5, hl5, hF5, hfr⟩ := atN hN k hk
  have hs := N_set1 (u := .int .i64 9007199254740992) (x' := { rd_T54 t k with f2 := 9007199254740992 }) hN k hk 2 (by decide) h0 h1 h2 h3 h4 h5 (k54_mkF _ (fun j => w.heap.size ≤ j ∧ j ≠ g) { rd_T54 t k with f2 := 9007199254740992 } hl5 hF5)
  have ht := tab_set2 hT hk hP
  refine ⟨?_, hB.setCell (p := ⟨g, k * 6 + 2, none⟩) hbg _, ht.1, ht.2⟩
  rw [List.length_set]
  exact hs

set_option maxHeartbeats 4000000 in
set_option maxRecDepth 100000 in
theorem table_calls (raw : List S58) (A : Option Addr) (c : Nat) (w : World) (hr : Kd.C k58 w A raw.length raw) (hin : ∀ x ∈ raw, InR x) :
    Calls Try.prog 10 #[.slice A raw.length c] w fun e w' => ∃ (t : List S54) (A' : Option Addr) (c' : Nat), e = .returned (.slice A' t.length c') ∧ TabW w A' c' t w' := by
  have hml : raw.length ≤ 9223372036854775807 := hr.2.1
  have HR := Lib.hid hr
  have HIN := Lib.hid hin
  clear hr hin
  go_enter Try.func10, Try.ntmps10
  have HT0 := Lib.hid (show TabW w none 0 [] w from ⟨Kd.N_nil _ _ _ _ _, Below.refl _ _, rfl, fun x hx => by cases hx⟩)
  go_upto_region 2 with (fail)
  go_cut [4] (fun v4 W => v4 = .int .i64 0 ∧ Aside0 (TabW w none 0 [] W))
  case first =>
    go_wp2
    go_meet
    case rel => exact ⟨rfl, ⟨HT0.out⟩⟩
  obtain ⟨rfl, HA⟩ := hcut
  have HT1 := Lib.hid HA.out
  clear HA HT0
  refine (by assumption : ∀ (a : Act) (w : World), Code.wp _ _ _ a w → _) _ _ ?_
  go_cut [3] (fun v3 W => ∃ (A3 : Option Addr) (c3 : Nat) (t : List S54), v3 = .slice A3 t.length c3 ∧ Aside0 (TabW w A3 c3 t W))
  case first =>
    go_wp2
    go_loopw [3, 4] (fun v3 v4 W => ∃ (k : Nat) (A3 : Option Addr) (c3 : Nat) (t : List S54), k ≤ raw.length ∧ v4 = .int .i64 k ∧ v3 = .slice A3 t.length c3 ∧ Aside0 (TabW w A3 c3 t W)) (fun _ v4 _ => raw.length - (intOf v4).toNat)
    case atStart => exact ⟨0, none, 0, [], Nat.zero_le _, rfl, rfl, ⟨HT1.out⟩⟩
    case round =>
      clear HT1
      obtain ⟨k, A3, c3, t, hk, rfl, rfl, HI⟩ := hrel
      by_cases hlt : k < raw.length
      rotate_left
      · have z1 : ¬ (k : Int) < raw.length := by omega
        have z2 : decide ((k : Int) < raw.length) = false := decide_eq_false z1
        clear hlt
        go_wp2
        go_meet
        case rel => exact ⟨A3, c3, t, rfl, HI⟩
      have z1 : (k : Int) < raw.length := by omega
      have z2 : decide ((k : Int) < raw.length) = true := decide_eq_true z1
      by_cases h40 : k < 40
      rotate_left
      · have z3 : ¬ (k : Int) < 40 := by omega
        have z4 : decide ((k : Int) < 40) = false := decide_eq_false z3
        clear hlt h40
        go_wp2
        go_meet
        case rel => exact ⟨A3, c3, t, rfl, HI⟩
      have z3 : (k : Int) < 40 := by omega
      have z4 : decide ((k : Int) < 40) = true := decide_eq_true z3
      obtain ⟨ad, hA, h0, h1, h2, h3, h4⟩ := at_T58 HR.out k (by omega) (by omega)
      subst hA
      rw [Int.toNat_natCast] at h0 h1 h2 h3 h4
      replace h0 := kept_cell HI.out.2.1 h0
      replace h1 := kept_cell HI.out.2.1 h1
      replace h2 := kept_cell HI.out.2.1 h2
      replace h3 := kept_cell HI.out.2.1 h3
      replace h4 := kept_cell HI.out.2.1 h4
      have HXI := Lib.hid (HIN.out _ (show rd_T58 raw k ∈ raw by
        rw [show rd_T58 raw k = raw[k] by simp only [rd_T58, Int.toNat_natCast, List.getD_eq_getElem?_getD, List.getElem?_eq_getElem hlt, Option.getD_some]]
        exact List.getElem_mem _))
      generalize rd_T58 raw k = x at *
      have HOP := Lib.hid (op_calls x wr HXI.out)
      have b1 : (0 : Int) ≤ k := by omega
      go_wp2_with fail
      refine HOP.out.mono ?_
      rintro E W1 ⟨⟨o, rfl⟩, hb1⟩
      have ht20 : t.length ≤ 1000 := by have := (tabOk_iff.1 HI.out.2.2.1).2.2; omega
      have HDO := Lib.hid (do2_calls A3 c3 t o W1 (Kd.C_below (Kd.N_reads' HI.out.1).2.2 hb1) HI.out.2.2.2 ht20)
      have HB1 := Lib.hid (below_then HI.out.2.1 HI.out.2.1.size hb1)
      clear hb1 HOP
      go_wp2_with fail
      refine HDO.out.mono ?_
      rintro E W2 ⟨A5, c5, v5, rfl, hn5, hr5, hb5⟩
      obtain ⟨A6, c6, rfl⟩ := Kd.R_slice hr5
      have HT2 := Lib.hid (show TabW w A5 c5 (doT t o).1 W2 from ⟨Kd.N_mono (Kd.N_lower hn5 HB1.out.size) (fun j hj => Nat.le_trans HB1.out.size hj), below_then HB1.out HB1.out.size hb5, doT_ok o HI.out.2.2.1, doT_plain o HI.out.2.2.2⟩)
      clear hn5 hr5 hb5 HDO
      generalize doT t o = dt at *
      go_wp2
      go_roundw
      case rel => exact ⟨k + 1, A5, c5, dt.1, by omega, by go_num, rfl, ⟨HT2.out⟩⟩
      case measure => simp [intOf]; omega
  obtain ⟨A3, c3, t, rfl, HA⟩ := hcut
  have HT3 := Lib.hid HA.out
  clear HA
  obtain ⟨n, hn⟩ : ∃ n, n = t.length := ⟨_, rfl⟩
  rw [← hn]
  have HN := Lib.hid hn.symm
  clear hn
  refine (by assumption : ∀ (a : Act) (w : World), Code.wp _ _ _ a w → _) _ _ ?_
  go_upto_region 6 with (fail)
  go_wp2
  go_loopw [5] (fun v5 W => ∃ (k : Nat) (t2 : List S54), k ≤ n ∧ v5 = .int .i64 k ∧ Aside0 (t2.length = n ∧ TabW w A3 c3 t2 W)) (fun v5 _ => n - (intOf v5).toNat)
  case atStart => exact ⟨0, t, Nat.zero_le _, rfl, ⟨HN.out, HT3.out⟩⟩
  case round =>
    clear HT3
    obtain ⟨k, t2, hk, rfl, HI⟩ := hrel
    by_cases hlt : k < n
    rotate_left
    · have z1 : ¬ (k : Int) < n := by omega
      clear hlt
      go_wp2
      go_ret
      exact ⟨t2, A3, c3, by rw [HI.out.1]; rfl, HI.out.2⟩
    have z1 : (k : Int) < n := by omega
    have z0 : (0 : Int) ≤ k := by omega
    obtain ⟨g, rfl⟩ : ∃ g, A3 = some ⟨g, 0, none⟩ := by
      rcases N_cases HI.out.2.1 with h | ⟨_, h, _⟩
      · exact h
      · have := HI.out.1
        rw [h] at this
        simp at this
        omega
    have hk2 : k < t2.length := by have := HI.out.1; omega
    obtain ⟨A5, c5, h0, h1, h2, h3, h4, h5, hl5, hF5, hfr⟩ := atN HI.out.2.1 k hk2
    have hf5 := hfr 5
    have hf2 := hfr 2
    have hgl := Kd.N_lt HI.out.2.1 g (by simp [Value.ownBlock])
    have hn20 : n ≤ 1000 := by have := (tabOk_iff.1 HI.out.2.2.2.1).2.2; have := HI.out.1; omega
    have hw : IntKind.i64.wrap (9 + (k : Int)) = 9 + (k : Int) := IntWalk.i64_in _ ⟨by omega, by omega⟩
    have HS5 := Lib.hid (show TabW w (some ⟨g, 0, none⟩) c3 (t2.set k { rd_T54 t2 k with f5 := [fieldC k] }) ((wr.setCell ⟨g, k * 6 + 5, none⟩ (.slice (some ⟨wr.heap.size, 0, none⟩) 1 1)).alloc (.cells #[.int .i64 (9 + k), .string carried] 60)) from by
      have h := tabW_set5 HI.out.2 hk2 (b := wr.heap.size) rfl
      rw [World.setCell_alloc_past _ _ _ _ hgl] at h
      exact h)
    have HS2 := Lib.hid (tabW_set2 HI.out.2 hk2)
    have HS52 := Lib.hid (show TabW w (some ⟨g, 0, none⟩) c3 ((t2.set k { rd_T54 t2 k with f5 := [fieldC k] }).set k { rd_T54 (t2.set k { rd_T54 t2 k with f5 := [fieldC k] }) k with f2 := 9007199254740992 }) (((wr.setCell ⟨g, k * 6 + 5, none⟩ (.slice (some ⟨wr.heap.size, 0, none⟩) 1 1)).setCell ⟨g, k * 6 + 2, none⟩ (.int .i64 9007199254740992)).alloc (.cells #[.int .i64 (9 + k), .string carried] 60)) from by
      have h := tabW_set2 HS5.out (k := k) (by rw [List.length_set]; exact hk2)
      rw [World.setCell_alloc_past _ _ _ _ (by simpa using hgl)] at h
      exact h)
    have HK2 := Lib.hid hk2
    clear h0 h1 h3 h4 hl5 hF5 hfr hk2
    cases m1 : ((k : Int) % 3 == 1)
    · cases m2 : ((k : Int) % 5 == 4)
      · go_wp2
        go_roundw
        case rel => exact ⟨k + 1, t2, by omega, by go_num, HI⟩
        case measure => simp [intOf]; omega
      · by_cases m3 : (7 : Int) < raw.length
        · have m3' : decide ((7 : Int) < raw.length) = true := decide_eq_true m3
          go_wp2
          go_roundw
          case rel => exact ⟨k + 1, t2.set k { rd_T54 t2 k with f2 := 9007199254740992 }, by omega, by go_num, ⟨by rw [List.length_set]; exact HI.out.1, HS2.out⟩⟩
          case measure => simp [intOf]; omega
        · have m3' : decide ((7 : Int) < raw.length) = false := decide_eq_false m3
          go_wp2
          go_roundw
          case rel => exact ⟨k + 1, t2, by omega, by go_num, HI⟩
          case measure => simp [intOf]; omega
    · cases m2 : ((k : Int) % 5 == 4)
      · go_wp2
        go_roundw
        case rel => exact ⟨k + 1, t2.set k { rd_T54 t2 k with f5 := [fieldC k] }, by omega, by go_num, ⟨by rw [List.length_set]; exact HI.out.1, HS5.out⟩⟩
        case measure => simp [intOf]; omega
      · by_cases m3 : (7 : Int) < raw.length
        · have m3' : decide ((7 : Int) < raw.length) = true := decide_eq_true m3
          go_wp2
          go_roundw
          case rel => exact ⟨k + 1, (t2.set k { rd_T54 t2 k with f5 := [fieldC k] }).set k { rd_T54 (t2.set k { rd_T54 t2 k with f5 := [fieldC k] }) k with f2 := 9007199254740992 }, by omega, by go_num, ⟨by rw [List.length_set, List.length_set]; exact HI.out.1, HS52.out⟩⟩
          case measure => simp [intOf]; omega
        · have m3' : decide ((7 : Int) < raw.length) = false := decide_eq_false m3
          go_wp2
          go_roundw
          case rel => exact ⟨k + 1, t2.set k { rd_T54 t2 k with f5 := [fieldC k] }, by omega, by go_num, ⟨by rw [List.length_set]; exact HI.out.1, HS5.out⟩⟩
          case measure => simp [intOf]; omega

end Go.Proofs.Ytadhfedbgeenlaa.H
