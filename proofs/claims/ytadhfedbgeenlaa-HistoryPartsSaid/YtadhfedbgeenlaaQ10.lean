/- Parts of the proof, merged: Ld, Lc, Mc, Ma, Mb, Md. -/
import Derived.Test.YtadhfedbgeenlaaQ9
import Derived.Test.YtadhfedbgeenlaaQ3
/- The law's Events: an event of which nothing is known. -/
namespace Go.Proofs.Ytadhfedbgeenlaa.H
open Go.RowKit Go.Proofs.YtadhfedbgeenlaaW.PrintWords Go.Proofs.YtadhfedbgeenlaaW.PrintLast Go.Proofs.YtadhfedbgeenlaaW.PrintMore
set_option linter.unusedVariables false
set_option linter.unusedSimpArgs false
/-- An event's variable, written. -/
abbrev put12 (W : World) (g : Nat) (y0 y1 y2 y3 y4 y5 y6 y7 y8 y9 y10 y11 : Value) : World := ((((((((((((W.setCell ⟨g, 0, none⟩ y0).setCell ⟨g, 1, none⟩ y1).setCell ⟨g, 2, none⟩ y2).setCell ⟨g, 3, none⟩ y3).setCell ⟨g, 4, none⟩ y4).setCell ⟨g, 5, none⟩ y5).setCell ⟨g, 6, none⟩ y6).setCell ⟨g, 7, none⟩ y7).setCell ⟨g, 8, none⟩ y8).setCell ⟨g, 9, none⟩ y9).setCell ⟨g, 10, none⟩ y10).setCell ⟨g, 11, none⟩ y11)
set_option maxHeartbeats 4000000 in
theorem put12_at {W : World} {g t : Nat} {x0 x1 x2 x3 x4 x5 x6 x7 x8 x9 x10 x11 y0 y1 y2 y3 y4 y5 y6 y7 y8 y9 y10 y11 : Value} (h : W.heap[g]? = some (.cells #[x0, x1, x2, x3, x4, x5, x6, x7, x8, x9, x10, x11] t (0, 0))) : (put12 W g y0 y1 y2 y3 y4 y5 y6 y7 y8 y9 y10 y11).heap[g]? = some (.cells #[y0, y1, y2, y3, y4, y5, y6, y7, y8, y9, y10, y11] t (0, 0)) := by
  simp [World.setCell, Array.getElem?_modify, h]

set_option maxHeartbeats 4000000 in
theorem put12_below {W w0 : World} {g base : Nat} {y0 y1 y2 y3 y4 y5 y6 y7 y8 y9 y10 y11 : Value} (h : Below base w0 W) (hg : base ≤ g) : Below base w0 (put12 W g y0 y1 y2 y3 y4 y5 y6 y7 y8 y9 y10 y11) := by
  have e : ∀ (W : World) (o : Nat) (v : Value), Below base w0 W → Below base w0 (W.setCell ⟨g, o, none⟩ v) := fun W o v h => h.setCell (p := ⟨g, o, none⟩) hg v
  iterate 12 refine e _ _ _ ?_
  exact h
noncomputable def evHead (n : Nat) : Code := headC ((Try.f11.body.bind (fromRegion n)).getD .skip)
set_option maxHeartbeats 4000000 in
set_option maxRecDepth 1000000 in
theorem ev13 {W : World} {g g1 : Nat} {o : S36} {K1 : Act → World → Prop} {Q : Exit → Act → World → Prop} {x0 x1 x2 x3 x4 x5 x6 x7 x8 x9 x10 x11 : Value} {sl0 sl1 sl2 sl3 sl4 sl5 sl6 sl7 sl8 sl9 sl10 sl12 sl13 sl14 sl16 sl17 sl18 sl19 sl20 sl21 sl22 sl23 sl24 sl25 sl26 sl27 sl28 sl29 sl30 sl31 sl32 sl33 sl34 sl35 sl36 sl37 sl38 sl39 sl40 sl41 sl42 sl43 sl44 sl45 sl46 sl47 sl48 sl49 sl50 sl51 sl52 sl53 sl54 sl55 sl56 sl57 sl58 sl59 sl60 sl61 sl62 sl63 sl64 sl65 sl66 sl67 sl68 : Value} (h1 : W.heap[g]? = some (.cells #[.int .i64 o.f0, .string o.f1, .string o.f2, .int .i64 o.f3, .string o.f4, .int .i64 o.f5, .string o.f6] 36 (0, 0))) (h2 : W.heap[g1]? = some (.cells #[x0, x1, x2, x3, x4, x5, x6, x7, x8, x9, x10, x11] 38 (0, 0)))
    (hnext : ∀ u55 u56, K1 ⟨List.toArray (sl0 :: sl1 :: sl2 :: sl3 :: sl4 :: sl5 :: sl6 :: sl7 :: sl8 :: sl9 :: sl10 :: (.pointer (some ⟨g, 0, none⟩) : Value) :: sl12 :: sl13 :: sl14 :: (.pointer (some ⟨g1, 0, none⟩) : Value) :: sl16 :: sl17 :: sl18 :: sl19 :: sl20 :: sl21 :: sl22 :: sl23 :: sl24 :: sl25 :: sl26 :: sl27 :: sl28 :: sl29 :: sl30 :: sl31 :: sl32 :: sl33 :: sl34 :: sl35 :: sl36 :: sl37 :: sl38 :: sl39 :: sl40 :: sl41 :: sl42 :: sl43 :: sl44 :: sl45 :: sl46 :: sl47 :: sl48 :: sl49 :: sl50 :: sl51 :: sl52 :: sl53 :: sl54 :: u55 :: u56 :: sl57 :: sl58 :: sl59 :: sl60 :: sl61 :: sl62 :: sl63 :: sl64 :: sl65 :: sl66 :: sl67 :: sl68 :: []), []⟩ (put12 W g1 (.int .i64 o.f0) (.string o.f1) (.string o.f2) (.int .i64 o.f3) (.string o.f4) (.int .i64 o.f5) (.string o.f6) (.bool false) (.int .i64 0) (.int .i64 0) (.string ⟨#[]⟩) (.slice none 0 0))) :
    Code.wp Try.prog (evHead 13) (Exit.then K1 Q) ⟨List.toArray (sl0 :: sl1 :: sl2 :: sl3 :: sl4 :: sl5 :: sl6 :: sl7 :: sl8 :: sl9 :: sl10 :: (.pointer (some ⟨g, 0, none⟩) : Value) :: sl12 :: sl13 :: sl14 :: (.pointer (some ⟨g1, 0, none⟩) : Value) :: sl16 :: sl17 :: sl18 :: sl19 :: sl20 :: sl21 :: sl22 :: sl23 :: sl24 :: sl25 :: sl26 :: sl27 :: sl28 :: sl29 :: sl30 :: sl31 :: sl32 :: sl33 :: sl34 :: sl35 :: sl36 :: sl37 :: sl38 :: sl39 :: sl40 :: sl41 :: sl42 :: sl43 :: sl44 :: sl45 :: sl46 :: sl47 :: sl48 :: sl49 :: sl50 :: sl51 :: sl52 :: sl53 :: sl54 :: sl55 :: sl56 :: sl57 :: sl58 :: sl59 :: sl60 :: sl61 :: sl62 :: sl63 :: sl64 :: sl65 :: sl66 :: sl67 :: sl68 :: []), []⟩ W := by
  have HEX := Lib.hid hnext
  obtain ⟨p0, p1, p2, p3, p4, p5, p6, _, pl⟩ := seven_cells h1
  obtain ⟨q0, q1, q2, q3, q4, q5, q6, q7, q8, q9, q10, q11, _, ql⟩ := twelve_cells h2
  have ef0 := blk_frozen h2 0
  have ef1 := blk_frozen h2 1
  have ef2 := blk_frozen h2 2
  have ef3 := blk_frozen h2 3
  have ef4 := blk_frozen h2 4
  have ef5 := blk_frozen h2 5
  have ef6 := blk_frozen h2 6
  have ef7 := blk_frozen h2 7
  have ef8 := blk_frozen h2 8
  have ef9 := blk_frozen h2 9
  have ef10 := blk_frozen h2 10
  have ef11 := blk_frozen h2 11
  clear h1 h2 hnext
  conv => arg 2; whnf
  go_wp2
  exact HEX.out _ _

end Go.Proofs.Ytadhfedbgeenlaa.H

/- The law's Events. -/
namespace Go.Proofs.Ytadhfedbgeenlaa.H
open Go.RowKit Go.Proofs.YtadhfedbgeenlaaW.PrintWords Go.Proofs.YtadhfedbgeenlaaW.PrintLast Go.Proofs.YtadhfedbgeenlaaW.PrintMore
set_option linter.unusedVariables false
set_option linter.unusedSimpArgs false
/-- What one table replied, step by step: of what is not known, it was done or not. -/
inductive RunT : List S54 → List EvT → List S54 → Prop
  | nil (t : List S54) : RunT t [] t
  | snoc {t t' t'' : List S54} {l : List EvT} {e : EvT} (h : RunT t l t') (h2 : t'' ∈ behindT t' e) : RunT t (l ++ [e]) t''
abbrev evK (o : S36) (r : RepT) : EvT := ⟨o, true, r⟩
abbrev evU (o : S36) : EvT := ⟨o, false, ⟨0, 0, ⟨#[]⟩, []⟩⟩
theorem run_known {t t' : List S54} {l : List EvT} (o : S36) (h : RunT t l t') : RunT t (l ++ [evK o (doT t' o).2]) (doT t' o).1 := .snoc h (by
  unfold behindT
  rw [if_pos rfl, if_pos rfl]
  exact List.mem_singleton.2 rfl)
theorem run_done {t t' : List S54} {l : List EvT} (o : S36) (h : RunT t l t') : RunT t (l ++ [evU o]) (doT t' o).1 := .snoc h (by
  unfold behindT
  rw [if_neg (by simp)]
  exact List.mem_cons_self ..)
theorem run_not {t t' : List S54} {l : List EvT} (o : S36) (h : RunT t l t') : RunT t (l ++ [evU o]) t' := .snoc h (by
  unfold behindT
  rw [if_neg (by simp)]
  exact List.mem_cons_of_mem _ (List.mem_singleton.2 rfl))
def EvtP (t0 : List S54) (kn k un : Nat) (l : List EvT) (t : List S54) : Prop := RunT t0 l t ∧ l.length = k ∧ k ≤ 16 ∧ l.countP (fun e => !e.f1) = un ∧ un ≤ 5 ∧ (kn = 0 → un = 0) ∧ PlainT t ∧ t.length ≤ 1000
theorem evtP_known {t0 t : List S54} {kn k un : Nat} {l : List EvT} (o : S36) (h : EvtP t0 kn k un l t) (hk : k < 16) : EvtP t0 kn (k + 1) un (l ++ [evK o (doT t o).2]) (doT t o).1 :=
  ⟨run_known o h.1, by rw [List.length_append, h.2.1]; rfl, hk, by rw [List.countP_append, h.2.2.2.1]; rfl, h.2.2.2.2.1, h.2.2.2.2.2.1, doT_plain o h.2.2.2.2.2.2.1, doT_len o h.2.2.2.2.2.2.2⟩
theorem evtP_done {t0 t : List S54} {kn k un : Nat} {l : List EvT} (o : S36) (h : EvtP t0 kn k un l t) (hk : k < 16) (hu : un < 5) (hz : ¬ kn = 0) : EvtP t0 kn (k + 1) (un + 1) (l ++ [evU o]) (doT t o).1 :=
  ⟨run_done o h.1, by rw [List.length_append, h.2.1]; rfl, hk, by rw [List.countP_append, h.2.2.2.1]; rfl, hu, fun h => absurd h hz, doT_plain o h.2.2.2.2.2.2.1, doT_len o h.2.2.2.2.2.2.2⟩
theorem evtP_not {t0 t : List S54} {kn k un : Nat} {l : List EvT} (o : S36) (h : EvtP t0 kn k un l t) (hk : k < 16) (hu : un < 5) (hz : ¬ kn = 0) : EvtP t0 kn (k + 1) (un + 1) (l ++ [evU o]) t :=
  ⟨run_not o h.1, by rw [List.length_append, h.2.1]; rfl, hk, by rw [List.countP_append, h.2.2.2.1]; rfl, hu, fun h => absurd h hz, h.2.2.2.2.2.2.1, h.2.2.2.2.2.2.2⟩
/-- The events under way. -/
def EvtW (w : World) (l : List EvT) (t : List S54) (Ac : Option Addr) (cc : Nat) (A8 : Option Addr) (c8 : Nat) (W : World) : Prop :=
  Kd.F k54 W (fun j => some j ≠ (Value.slice A8 l.length c8).ownBlock) Ac t.length t ∧ t.length ≤ cc ∧ Kd.N k38 38 W w.heap.size (fun j => w.heap.size ≤ j) (.slice A8 l.length c8) l ∧ Below w.heap.size w W
theorem at_I {w : World} {A : Option Addr} {xs : List Int} {k : Nat} (h : Kd.C (Kd.int .i64) w A xs.length xs) (hk : k < xs.length) : ∃ ad, A = some ad ∧ w.cell? (ad.add k) = some (.int .i64 (xs.getD k 0)) := by
  obtain ⟨ad, c, rfl, _, hK, hc⟩ := Kd.C_get h 0 (k : Int) (by omega) (by omega)
  have hc0 : ∀ j u, c[j]? = some u → w.cell? (ad.add (((k : Int)).toNat * 1 + j)) = some u := hc
  have hK2 : c = [.int .i64 (xs.getD ((k : Int)).toNat 0)] := hK
  subst hK2
  have h2 := hc0 0 _ rfl
  rw [Int.toNat_natCast, Nat.mul_one, Nat.add_zero] at h2
  exact ⟨ad, rfl, h2⟩
theorem F_nilS (W : World) (ok : Nat → Prop) : Kd.F Kd.string W ok none 0 [] := Kd.N_F (Kd.N_nil Kd.string 9 W 0 ok)

set_option maxHeartbeats 4000000 in
set_option maxRecDepth 100000 in
theorem events_calls (t0 : List S54) (raw : List S58) (known : List Int) (A0 A1 A2 : Option Addr) (c0 c1 c2 : Nat) (w : World) (ht : Kd.C k54 w A0 t0.length t0) (hr : Kd.C k58 w A1 raw.length raw) (hkn : Kd.C (Kd.int .i64) w A2 known.length known) (hin : ∀ x ∈ raw, InR x) (hik : ∀ x ∈ known, InI x) (hp : PlainT t0) (hlen : t0.length ≤ 1000) (hct : t0.length ≤ c0) :
    Calls Try.prog 11 #[.slice A0 t0.length c0, .slice A1 raw.length c1, .slice A2 known.length c2] w fun e w' => ∃ (l : List EvT) (t : List S54) (k un : Nat) (Ac : Option Addr) (cc : Nat) (A8 : Option Addr) (c8 : Nat), e = .returned (.tuple #[.slice A8 l.length c8, .slice Ac t.length cc]) ∧ EvtP t0 known.length k un l t ∧ EvtW w l t Ac cc A8 c8 w' := by
  have hml : raw.length ≤ 9223372036854775807 := hr.2.1
  have hmk : known.length ≤ 9223372036854775807 := hkn.2.1
  have HR := Lib.hid hr
  have HKN := Lib.hid hkn
  have HIN := Lib.hid hin
  have HIK := Lib.hid hik
  have HP0 := Lib.hid (show EvtP t0 known.length 0 0 [] t0 from ⟨.nil t0, rfl, by decide, rfl, by decide, fun _ => rfl, hp, hlen⟩)
  have HW0 := Lib.hid (show EvtW w [] t0 A0 c0 none 0 w from ⟨Kd.F_mono (Kd.C_F heap_rec ht) (fun j hj => by simp [Value.ownBlock]), hct, Kd.N_nil _ _ _ _ _, Below.refl _ _⟩)
  clear hr hkn hin hik ht hp hlen hct
  go_enter Try.func11, Try.ntmps11
  go_wp2
  go_loopw [0, 8, 9, 10] (fun v0 v8 v9 v10 W => ∃ (k un : Nat) (l : List EvT) (t : List S54) (Ac : Option Addr) (cc : Nat) (A8 : Option Addr) (c8 : Nat), k ≤ raw.length ∧ v10 = .int .i64 k ∧ v9 = .int .i64 un ∧ v0 = .slice Ac t.length cc ∧ v8 = .slice A8 l.length c8 ∧ Aside0 (EvtP t0 known.length k un l t ∧ EvtW w l t Ac cc A8 c8 W)) (fun _ _ _ v10 _ => raw.length - (intOf v10).toNat)
  case atStart => exact ⟨0, 0, [], t0, A0, c0, none, 0, Nat.zero_le _, rfl, rfl, rfl, rfl, ⟨HP0.out, HW0.out⟩⟩
  case round =>
    clear HP0 HW0
    obtain ⟨k, un, l, t, Ac, cc, A8, c8, hk, rfl, rfl, rfl, rfl, HI⟩ := hrel
    by_cases hlt : k < raw.length
    rotate_left
    · have z1 : ¬ (k : Int) < raw.length := by omega
      have z2 : decide ((k : Int) < raw.length) = false := decide_eq_false z1
      clear hlt
      go_wp2
      go_ret2
      exact ⟨l, t, k, un, Ac, cc, A8, c8, rfl, HI.out.1, HI.out.2⟩
    have z1 : (k : Int) < raw.length := by omega
    have z2 : decide ((k : Int) < raw.length) = true := decide_eq_true z1
    by_cases h16 : k < 16
    rotate_left
    · have z3 : ¬ (k : Int) < 16 := by omega
      have z4 : decide ((k : Int) < 16) = false := decide_eq_false z3
      clear hlt h16
      go_wp2
      go_ret2
      exact ⟨l, t, k, un, Ac, cc, A8, c8, rfl, HI.out.1, HI.out.2⟩
    have z3 : (k : Int) < 16 := by omega
    have z4 : decide ((k : Int) < 16) = true := decide_eq_true z3
    have H16 := Lib.hid h16
    have HPR := Lib.hid HI.out.1
    have HWW := Lib.hid HI.out.2
    obtain ⟨ad, hA, h0, h1, h2, h3, h4⟩ := at_T58 HR.out k (by omega) (by omega)
    subst hA
    rw [Int.toNat_natCast] at h0 h1 h2 h3 h4
    replace h0 := kept_cell HWW.out.2.2.2 h0
    replace h1 := kept_cell HWW.out.2.2.2 h1
    replace h2 := kept_cell HWW.out.2.2.2 h2
    replace h3 := kept_cell HWW.out.2.2.2 h3
    replace h4 := kept_cell HWW.out.2.2.2 h4
    have HXI := Lib.hid (HIN.out _ (show rd_T58 raw k ∈ raw by
      rw [show rd_T58 raw k = raw[k] by simp only [rd_T58, Int.toNat_natCast, List.getD_eq_getElem?_getD, List.getElem?_eq_getElem hlt, Option.getD_some]]
      exact List.getElem_mem _))
    generalize rd_T58 raw k = x at *
    have HOP := Lib.hid (op_calls x wr HXI.out)
    have b1 : (0 : Int) ≤ k := by omega
    clear HI h16
    go_wp2_with fail
    refine HOP.out.mono ?_
    rintro E W1 ⟨⟨o, rfl⟩, hb1⟩
    generalize hW2 : W1.alloc (.cells #[.int .i64 o.f0, .string o.f1, .string o.f2, .int .i64 o.f3, .string o.f4, .int .i64 o.f5, .string o.f6] 36) = W2
    have HG1 := Lib.hid (show W2.heap[W1.heap.size]? = some (.cells #[.int .i64 o.f0, .string o.f1, .string o.f2, .int .i64 o.f3, .string o.f4, .int .i64 o.f5, .string o.f6] 36 (0, 0)) by rw [← hW2]; exact new_at rfl _)
    have HB2 := Lib.hid (show Below wr.heap.size wr W2 by rw [← hW2]; exact below_alloc hb1 _)
    have HW2 := Lib.hid hW2
    clear hb1 HOP hW2
    have HDO := Lib.hid (do2_calls Ac cc t o W2 (Kd.C_below (Kd.F_now HWW.out.1) HB2.out) HPR.out.2.2.2.2.2.2.1 HPR.out.2.2.2.2.2.2.2)
    go_upto_region 7 with (fail)
    rw [HW2.out]
    clear HW2
    obtain ⟨p0, p1, p2, p3, p4, p5, p6, _, pl⟩ := seven_cells HG1.out
    go_wp2_with fail
    refine HDO.out.mono ?_
    rintro E W3 ⟨A5, c5, v5, rfl, hn5, hr5, hb5⟩
    obtain ⟨A6, c6, rfl⟩ := Kd.R_slice hr5
    have HFK := Lib.hid (And.intro (Kd.R_reads' hr5).2.1 (Kd.F_mono (Kd.R_F (Kd.R_bound hr5)) (fun j hj => hj.2.1) : Kd.F Kd.string W3 (fun j => W2.heap.size ≤ j) A6 (doT t o).2.f3.length (doT t o).2.f3))
    have HOWN := Lib.hid (fun (j : Nat) (hj : W2.heap.size ≤ j) => (show w.heap.size ≤ j ∧ some j ≠ (Value.slice A8 l.length c8).ownBlock from ⟨by have := HWW.out.2.2.2.size; have := HB2.out.size; omega, fun he => by have := Kd.N_lt HWW.out.2.2.1 j he.symm; have := HB2.out.size; omega⟩))
    have HCU := Lib.hid (And.intro (Kd.F_mono (Kd.N_F hn5) (fun j hj => (HOWN.out j hj).2) : Kd.F k54 W3 (fun j => some j ≠ (Value.slice A8 l.length c8).ownBlock) A5 (doT t o).1.length (doT t o).1) (Kd.N_reads' hn5).2.1)
    have HB3 := Lib.hid (below_then HB2.out HB2.out.size hb5)
    have HG13 := Lib.hid (kept_on hb5 HG1.out)
    have HPK := Lib.hid (evtP_known o HPR.out H16.out)
    have HPD := Lib.hid (fun hu hz => evtP_done o HPR.out H16.out hu hz)
    have HPN := Lib.hid (fun hu hz => evtP_not o HPR.out H16.out hu hz)
    have HSZ2 := Lib.hid (And.intro HB2.out.size hb5.size)
    clear hn5 hr5 hb5 HDO p0 p1 p2 p3 p4 p5 p6 pl HG1
    generalize doT t o = dt at *
    generalize hW4 : W3.alloc (.cells #[.int .i64 dt.2.f0, .int .i64 dt.2.f1, .string dt.2.f2, .slice A6 dt.2.f3.length c6] 34) = W4
    have HG2 := Lib.hid (show W4.heap[W3.heap.size]? = some (.cells #[.int .i64 dt.2.f0, .int .i64 dt.2.f1, .string dt.2.f2, .slice A6 dt.2.f3.length c6] 34 (0, 0)) by rw [← hW4]; exact new_at rfl _)
    have HB34 := Lib.hid (show Below W3.heap.size W3 W4 by rw [← hW4]; exact below_alloc (Below.refl _ _) _)
    have HW4 := Lib.hid hW4
    clear hW4
    have HG14 := Lib.hid (kept_on HB34.out HG13.out)
    have HB4 := Lib.hid (below_then HB3.out HB3.out.size HB34.out)
    go_upto_region 8 with (fail)
    rw [HW4.out]
    have HB34b := HB34
    clear HW4 HB34 HG13 HB2
    obtain ⟨p0, p1, p2, p3, p4, p5, p6, _, pl⟩ := seven_cells HG14.out
    obtain ⟨q0, q1, q2, q3, _, ql⟩ := four_cells HG2.out
    go_cut [14] (fun v14 W => v14 = .int .i64 0 ∧ W = W4)
    case first =>
      go_wp2
      go_meet
      case rel => exact ⟨rfl, rfl⟩
    obtain ⟨rfl, hw⟩ := hcut
    rw [hw]
    clear hw
    refine (by assumption : ∀ (a : Act) (w : World), Code.wp _ _ _ a w → _) _ _ ?_
    apply wp_seq_k; intro _ _
    go_cut [14] (fun v14 W => ∃ kk : Int, v14 = .int .i64 kk ∧ 0 ≤ kk ∧ kk < 6 ∧ (known.length = 0 → kk = 0) ∧ W = W4)
    case first =>
      by_cases hkl : k < known.length
      · have y1 : (k : Int) < known.length := by omega
        have y2 : decide ((k : Int) < known.length) = true := decide_eq_true y1
        obtain ⟨ka, hA, hkc⟩ := at_I HKN.out hkl
        subst hA
        replace hkc := kept_cell HWW.out.2.2.2 hkc
        replace hkc := kept_cell HB4.out hkc
        have HK1 := Lib.hid (HIK.out _ (show known.getD k 0 ∈ known by
          rw [List.getD_eq_getElem?_getD, List.getElem?_eq_getElem hkl, Option.getD_some]
          exact List.getElem_mem _))
        generalize known.getD k 0 = kx at *
        have HPI := Lib.hid (pickI_bound kx 6 (by decide))
        have HPK6 := Lib.hid (fun w => pick21_calls kx 6 HK1.out (by decide) (by decide) w)
        have b2 : (0 : Int) ≤ k := by omega
        clear hkl
        go_wp2_with fail
        refine (HPK6.out _).mono ?_
        rintro E W5 ⟨rfl, rfl⟩
        go_wp2
        go_meet
        case rel => exact ⟨_, rfl, HPI.out.1, HPI.out.2, fun h => absurd h (by omega), rfl⟩
      · have y1 : ¬ (k : Int) < known.length := by omega
        have y2 : decide ((k : Int) < known.length) = false := decide_eq_false y1
        clear hkl
        go_wp2
        go_meet
        case rel => exact ⟨0, rfl, by decide, by decide, fun _ => rfl, rfl⟩
    obtain ⟨kk, rfl, hk0, hk6, hkz, hw⟩ := hcut
    rw [hw]
    clear hw
    have HKZ := Lib.hid hkz
    clear hkz
    go_upto_region 12 with (fail)
    generalize hW5 : W4.alloc (.cells #[(.int .i64 o.f0), (.string o.f1), (.string o.f2), (.int .i64 o.f3), (.string o.f4), (.int .i64 o.f5), (.string o.f6), .bool true, .int .i64 dt.2.f0, .int .i64 dt.2.f1, .string dt.2.f2, .slice A6 dt.2.f3.length c6] 38) = W5
    have HG5 := Lib.hid (show W5.heap[W4.heap.size]? = some (.cells #[(.int .i64 o.f0), (.string o.f1), (.string o.f2), (.int .i64 o.f3), (.string o.f4), (.int .i64 o.f5), (.string o.f6), .bool true, .int .i64 dt.2.f0, .int .i64 dt.2.f1, .string dt.2.f2, .slice A6 dt.2.f3.length c6] 38 (0, 0)) by rw [← hW5]; exact new_at rfl _)
    have HB5 := Lib.hid (show Below W4.heap.size W4 W5 by rw [← hW5]; exact below_alloc (Below.refl _ _) _)
    have HW5 := Lib.hid hW5
    clear hW5
    clear q0 q1 q2 q3 ql p0 p1 p2 p3 p4 p5 p6 pl
    go_cut [54] (fun v54 W => ∃ b : Bool, v54 = .bool b ∧ (b = true ↔ 3 < kk ∧ un < 5) ∧ W = W5)
    case first =>
      by_cases hc3 : 3 < kk
      · have y1 : decide ((3 : Int) < kk) = true := decide_eq_true hc3
        go_wp2
        go_meet
        case rel => exact ⟨_, rfl, by first | (simp [hc3]; done) | (simp [hc3]; omega) | (constructor <;> intros <;> omega), rfl⟩
      · have y1 : decide ((3 : Int) < kk) = false := decide_eq_false hc3
        go_wp2
        go_meet
        case rel => exact ⟨_, rfl, by first | (simp [hc3]; done) | (simp [hc3]; omega) | (constructor <;> intros <;> omega), rfl⟩
    obtain ⟨bq, rfl, hbq, hw⟩ := hcut
    rw [hw]
    clear hw
    have HBQ := Lib.hid hbq
    clear hbq
    refine (by assumption : ∀ (a : Act) (w : World), Code.wp _ _ _ a w → _) _ _ ?_
    go_cut [9, 12] from 40 to 61 (fun v9 v12 W => ∃ (un' : Nat) (t' : List S54) (A' : Option Addr) (c' : Nat) (e : EvT) (Ae : Option Addr) (ce : Nat), v9 = .int .i64 un' ∧ v12 = .slice A' t'.length c' ∧ Aside0 (EvtP t0 known.length (k + 1) un' (l ++ [e]) t' ∧ Kd.F k54 W (fun j => some j ≠ (Value.slice A8 l.length c8).ownBlock) A' t'.length t' ∧ t'.length ≤ c' ∧ W.heap[W4.heap.size]? = some (.cells #[.int .i64 e.f0.f0, .string e.f0.f1, .string e.f0.f2, .int .i64 e.f0.f3, .string e.f0.f4, .int .i64 e.f0.f5, .string e.f0.f6, .bool e.f1, .int .i64 e.f2.f0, .int .i64 e.f2.f1, .string e.f2.f2, .slice Ae e.f2.f3.length ce] 38 (0, 0)) ∧ e.f2.f3.length ≤ ce ∧ Kd.F Kd.string W (fun j => W2.heap.size ≤ j) Ae e.f2.f3.length e.f2.f3 ∧ Below W4.heap.size W4 W))
    case first =>
      cases bq
      · clear HBQ
        go_wp2
        go_meet
        case rel => exact ⟨un, dt.1, A5, c5, evK o dt.2, A6, c6, rfl, rfl, ⟨HPK.out, Kd.F_below HCU.out.1 (below_then HB34b.out HB34b.out.size HB5.out), HCU.out.2, HG5.out, HFK.out.1, Kd.F_below HFK.out.2 (below_then HB34b.out HB34b.out.size HB5.out), HB5.out⟩⟩
      have HC3 := Lib.hid (HBQ.out.1 rfl)
      clear HBQ
      have HKN0 : Hid (¬ known.length = 0) := Lib.hid (fun h => by have := HKZ.out h; have := HC3.out.1; omega)
      refine wp_cond_true rfl ?_
      apply wp_seq_k
      intro K13 hK13
      refine ev13 (kept_on HB5.out HG14.out) HG5.out ?_
      intro u55 u56
      have HG6 := Lib.hid (show (put12 W5 W4.heap.size (.int .i64 o.f0) (.string o.f1) (.string o.f2) (.int .i64 o.f3) (.string o.f4) (.int .i64 o.f5) (.string o.f6) (.bool false) (.int .i64 0) (.int .i64 0) (.string ⟨#[]⟩) (.slice none 0 0)).heap[W4.heap.size]? = _ from put12_at HG5.out)
      have HB6 := Lib.hid (show Below W4.heap.size W4 (put12 W5 W4.heap.size (.int .i64 o.f0) (.string o.f1) (.string o.f2) (.int .i64 o.f3) (.string o.f4) (.int .i64 o.f5) (.string o.f6) (.bool false) (.int .i64 0) (.int .i64 0) (.string ⟨#[]⟩) (.slice none 0 0)) from put12_below HB5.out (Nat.le_refl _))
      generalize put12 W5 W4.heap.size (.int .i64 o.f0) (.string o.f1) (.string o.f2) (.int .i64 o.f3) (.string o.f4) (.int .i64 o.f5) (.string o.f6) (.bool false) (.int .i64 0) (.int .i64 0) (.string ⟨#[]⟩) (.slice none 0 0) = W6 at *
      refine hK13 _ _ ?_
      clear hK13
      have hu5 : (un : Int) < 5 := by have := HC3.out.2; omega
      have hu6 : (0 : Int) ≤ (un : Int) := by omega
      have hu7 : wrap64 ((un : Int) + 1) = ((un + 1 : Nat) : Int) := (IntWalk.wrap64_in _ ⟨by omega, by omega⟩).trans (by omega)
      by_cases hk5 : kk = 5
      · subst hk5
        go_wp2
        go_meet
        case rel => exact ⟨un + 1, t, Ac, cc, evU o, none, 0, by first | go_num | rw [hu7], rfl, ⟨HPN.out HC3.out.2 HKN0.out, Kd.F_below (Kd.F_below HWW.out.1 HB4.out) HB6.out, HWW.out.2.1, HG6.out, Nat.zero_le _, F_nilS _ _, HB6.out⟩⟩
      · have y4 : (kk == 5) = false := by simpa using hk5
        have y5 : decide (kk = 5) = false := by simpa using hk5
        clear hk5
        go_wp2
        go_meet
        case rel => exact ⟨un + 1, dt.1, A5, c5, evU o, none, 0, by first | go_num | rw [hu7], rfl, ⟨HPD.out HC3.out.2 HKN0.out, Kd.F_below HCU.out.1 (below_then HB34b.out HB34b.out.size HB6.out), HCU.out.2, HG6.out, Nat.zero_le _, F_nilS _ _, HB6.out⟩⟩
    obtain ⟨un', t', A', c', e, Ae, ce, rfl, rfl, HR2⟩ := hcut
    have HR2 := Lib.hid HR2.out
    have HB45 := Lib.hid (below_then HB4.out HB4.out.size HR2.out.2.2.2.2.2.2)
    obtain ⟨q0, q1, q2, q3, q4, q5, q6, q7, q8, q9, q10, q11, _, ql⟩ := twelve_cells HR2.out.2.2.2.1
    clear HG14 HG2 HCU HFK HPK HPD HPN HG5 HB5 HW5
    go_wp2_with (at_builtin; refine Kd.N_append k38 (w0 := w) w.heap.size rfl (.tmp 63) (.tmp 65) 24 38 (.agg #[(.int .i64 0), (.string ⟨#[]⟩), (.string ⟨#[]⟩), (.int .i64 0), (.string ⟨#[]⟩), (.int .i64 0), (.string ⟨#[]⟩), (.bool false), (.int .i64 0), (.int .i64 0), (.string ⟨#[]⟩), (.slice none 0 0)]) 152 rfl Try.underlying24 info38 rfl (by decide) (by omega) (.slice A8 l.length c8) l e [.int .i64 e.f0.f0, .string e.f0.f1, .string e.f0.f2, .int .i64 e.f0.f3, .string e.f0.f4, .int .i64 e.f0.f5, .string e.f0.f6, .bool e.f1, .int .i64 e.f2.f0, .int .i64 e.f2.f1, .string e.f2.f2, .slice Ae e.f2.f3.length ce] (fun j => w.heap.size ≤ j) (fun j => W2.heap.size ≤ j) rfl rfl ?aF ?aK ?aH ?aN ?aB ?aS ?aL ?_; (case aF => exact (k38_mkF _ (fun j => W2.heap.size ≤ j) e HR2.out.2.2.2.2.1 HR2.out.2.2.2.2.2.1)); (case aK => exact HOWN.out); (case aH => exact fun j hj => Nat.le_trans (Nat.le_trans HWW.out.2.2.2.size HB45.out.size) hj); (case aN => exact Kd.N_below HWW.out.2.2.1 HB45.out); (case aB => exact below_then HWW.out.2.2.2 HWW.out.2.2.2.size HB45.out); (case aS => exact Nat.le_trans HWW.out.2.2.2.size HB45.out.size); (case aL => have := HPR.out.2.1; have := H16.out; omega); intro v7 w7 ho7 hb7 hg7 hat7; obtain ⟨A9, c9, rfl⟩ := Kd.N_slice ho7; have HL7 := Lib.hid (by rw [List.length_append]; rfl : (l ++ [e]).length = l.length + 1); have HX7 := Lib.hid (And.intro ho7 (And.intro hb7 (And.intro hg7 hat7))); clear ho7 hb7 hg7 hat7; generalize hl7 : l ++ [e] = l7 at *; have HLL := Lib.hid hl7.symm; clear hl7)
    go_roundw
    case rel => exact ⟨k + 1, un', l7, t', A', c', A9, c9, by omega, by go_num, by go_num, rfl, rfl, ⟨HR2.out.1, Kd.F_mono (Kd.F_step (Kd.F_bound HR2.out.2.1) (fun j hj hlt => HX7.out.2.2.1.block j hlt hj.1)) (fun j hj he => by
      rcases HX7.out.2.2.2 with h | ⟨b, h, hbl⟩
      · exact hj.1 (he.trans h)
      · rw [h] at he
        injection he with he
        have := hj.2
        omega), HR2.out.2.2.1, HX7.out.1, HX7.out.2.1⟩⟩
    case measure => simp [intOf]; omega

end Go.Proofs.Ytadhfedbgeenlaa.H

/- Plain laws of the laws of history. -/
namespace Go.Proofs.Ytadhfedbgeenlaa.H
open Go.RowKit Go.Proofs.YtadhfedbgeenlaaW.PrintWords Go.Proofs.YtadhfedbgeenlaaW.PrintLast Go.Proofs.YtadhfedbgeenlaaW.PrintMore
set_option linter.unusedVariables false
set_option linter.unusedSimpArgs false

theorem ways_append : ∀ (a b : List EvT) (t : List Rec), waysT t (a ++ b) = (waysT t a).flatMap (fun u => waysT u b)
  | [], b, t => by
    show waysT t b = waysT t b ++ []
    rw [List.append_nil]
  | e :: a, b, t => by
    show (behindT t e).flatMap (fun u => waysT u (a ++ b)) = ((behindT t e).flatMap (fun u => waysT u a)).flatMap (fun u => waysT u b)
    rw [List.flatMap_assoc]
    congr 1
    funext u
    exact ways_append a b u
theorem ways_one (t : List Rec) (e : EvT) : waysT t [e] = behindT t e := by
  show (behindT t e).flatMap (fun u => [u]) = behindT t e
  induction behindT t e with
  | nil => rfl
  | cons x xs ih => rw [List.flatMap_cons, ih]; rfl
theorem run_ways {t t' : List Rec} {l : List EvT} (h : RunT t l t') : t' ∈ waysT t l := by
  induction h with
  | nil => exact List.mem_singleton.2 rfl
  | snoc h h2 ih =>
    rw [ways_append]
    exact List.mem_flatMap.2 ⟨_, ih, by rw [ways_one]; exact h2⟩
theorem run_ends {t t' : List Rec} {l : List EvT} (h : RunT t l t') : t' ∈ endsT t l := mem_dd.2 (run_ways h)
theorem dd_nodup {α : Type} [DecidableEq α] : ∀ (l : List α), (dd l).Nodup
  | [] => List.nodup_nil
  | x :: xs => by
    rw [dd, List.nodup_cons]
    refine ⟨?_, ?_⟩
    · rw [List.mem_filter]
      rintro ⟨_, h⟩
      simp at h
    · exact List.Pairwise.filter _ (dd_nodup xs)
theorem nodup_len {α : Type} [DecidableEq α] : ∀ {a b : List α}, a.Nodup → (∀ x ∈ a, x ∈ b) → a.length ≤ b.length
  | [], b, _, _ => Nat.zero_le _
  | x :: xs, b, h, hs => by
    rw [List.nodup_cons] at h
    have hx := hs x (List.mem_cons_self ..)
    have h1 := nodup_len (b := b.erase x) h.2 (fun y hy => (List.mem_erase_of_ne (fun e => h.1 (by rw [← e]; exact hy))).2 (hs y (List.mem_cons_of_mem _ hy)))
    have h2 := List.length_erase_of_mem hx
    have h3 := List.length_pos_of_mem hx
    rw [List.length_cons]
    omega
theorem run_one {t t' : List Rec} {l : List EvT} (h : RunT t l t') (hk : ∀ e ∈ l, e.f1 = true) : waysT t l = [t'] := by
  induction h with
  | nil => rfl
  | @snoc u u' l e h h2 ih =>
    rw [ways_append, ih (fun e he => hk e (List.mem_append_left _ he))]
    show waysT u [e] ++ [] = [u']
    rw [List.append_nil, ways_one]
    have he := hk e (List.mem_append_right _ (List.mem_singleton.2 rfl))
    unfold behindT at h2 ⊢
    rw [if_pos he] at h2 ⊢
    split at h2
    · rename_i hq
      rw [if_pos hq, ← List.mem_singleton.1 h2]
    · cases h2
theorem all_known {l : List EvT} (h : l.countP (fun e => !e.f1) = 0) : ∀ e ∈ l, e.f1 = true := fun e he => by
  have h1 := List.countP_eq_zero.1 h e he
  simpa using h1
theorem run_take {t t' : List Rec} {l : List EvT} (h : RunT t l t') : ∀ k, k < l.length → ∃ u e u', RunT t (l.take k) u ∧ l[k]? = some e ∧ u' ∈ behindT u e := by
  induction h with
  | nil => intro k hk; exact absurd hk (Nat.not_lt_zero _)
  | @snoc u u' l e h h2 ih =>
    intro k hk
    rw [List.length_append, List.length_singleton] at hk
    rcases Nat.lt_or_ge k l.length with h1 | h1
    · obtain ⟨v, e', v', a, b, c⟩ := ih k h1
      exact ⟨v, e', v', by rw [List.take_append_of_le_length (Nat.le_of_lt h1)]; exact a, by rw [List.getElem?_append_left h1]; exact b, c⟩
    · obtain rfl : k = l.length := by omega
      exact ⟨u, e, u', by rw [List.take_left' rfl]; exact h, by simp, h2⟩
theorem run_len {t t' : List Rec} {l : List EvT} (h : RunT t l t') : ¬ endsT t (l.take l.length) = [] := by
  rw [List.take_length]
  intro e
  have := run_ends h
  rw [e] at this
  cases this
/-- Where all is known and one reply is another one. -/
theorem known_other {t t' : List Rec} {l : List EvT} {k : Nat} {e e' : EvT} (h : RunT t l t') (ha : ∀ e ∈ l, e.f1 = true) (hk : l[k]? = some e) (h0 : e'.f0 = e.f0) (h1 : e'.f1 = true) (h2 : ¬ e'.f2 = e.f2) :
    firstT t (l.set k e') (l.set k e').length = k ∧ endsT t (l.set k e') = [] := by
  have hlt : k < l.length := (List.getElem?_eq_some_iff.1 hk).1
  obtain ⟨u, e0, u', r, hq, hu⟩ := run_take h k hlt
  obtain rfl : e0 = e := by rw [hk] at hq; injection hq with hq; exact hq.symm
  have hone : waysT t (l.take k) = [u] := run_one r (fun x hx => ha x (List.mem_of_mem_take hx))
  have he := ha e0 (List.mem_of_getElem? hk)
  have hb : behindT u e' = [] := by
    unfold behindT at hu ⊢
    rw [if_pos he] at hu
    rw [if_pos h1, h0]
    split at hu
    · rename_i hx
      rw [if_neg (fun hy => h2 (hy.symm.trans hx))]
    · cases hu
  have ht : (l.set k e').take k = l.take k := by rw [List.take_set_of_le (Nat.le_refl k)]
  have hm : (l.set k e')[k]? = some e' := by rw [List.getElem?_set_self hlt]
  have hz : endsT t ((l.set k e').take (k + 1)) = [] := by
    rw [List.take_add_one, hm, ht, Option.toList_some]
    unfold endsT
    rw [ways_append, hone]
    show dd (waysT u [e'] ++ []) = []
    rw [List.append_nil, ways_one, hb]
    rfl
  have hn : ¬ endsT t ((l.set k e').take k) = [] := by
    rw [ht]
    unfold endsT
    rw [hone]
    intro hc
    cases hc
  have hlt' : k < (l.set k e').length := by rw [List.length_set]; exact hlt
  refine ⟨first_at hlt' hn hz, ?_⟩
  have := ends_mono (show k + 1 ≤ (l.set k e').length from hlt') hz
  rwa [List.take_length] at this
theorem count_same {l : List EvT} {k : Nat} {e e' : EvT} (hk : l[k]? = some e) (h : e'.f1 = e.f1) : (l.set k e').countP (fun e => !e.f1) = l.countP (fun e => !e.f1) := by
  have h1 : ∀ (m : List EvT), m.countP (fun e => !e.f1) = (m.map (·.f1)).countP (fun b => !b) := fun m => by rw [List.countP_map]; rfl
  rw [h1, h1, List.map_set, h]
  congr 1
  apply List.ext_getElem?
  intro i
  rw [List.getElem?_set]
  split
  · rename_i hi
    subst hi
    rw [List.length_map, if_pos (List.getElem?_eq_some_iff.1 hk).1, List.getElem?_map, hk]
    rfl
  · rfl
theorem count_one : ∀ {l : List EvT} {k : Nat} {e' : EvT}, (l.set k e').countP (fun e => !e.f1) ≤ l.countP (fun e => !e.f1) + 1
  | [], k, e' => by simp
  | x :: l, 0, e' => by
    rw [List.set_cons_zero, List.countP_cons, List.countP_cons]
    split <;> split <;> omega
  | x :: l, k + 1, e' => by
    rw [List.set_cons_succ, List.countP_cons, List.countP_cons]
    have := count_one (l := l) (k := k) (e' := e')
    omega
theorem behind_open {t u : List Rec} {e : EvT} (h : u ∈ behindT t e) : u ∈ behindT t (evU e.f0) := by
  have e1 : behindT t (evU e.f0) = [(doT t e.f0).1, t] := if_neg (by simp)
  rw [e1]
  unfold behindT at h
  split at h
  · split at h
    · exact List.mem_cons.2 (Or.inl (List.mem_singleton.1 h))
    · cases h
  · exact h
theorem ways_open : ∀ (l : List EvT) (k : Nat) (e : EvT) (t u : List Rec), l[k]? = some e → u ∈ waysT t l → u ∈ waysT t (l.set k (evU e.f0))
  | [], k, e, t, u, hk, _ => by simp at hk
  | x :: l, 0, e, t, u, hk, h => by
    obtain rfl : x = e := by simpa using hk
    rw [List.set_cons_zero]
    obtain ⟨v, hv, hu⟩ := List.mem_flatMap.1 (show u ∈ (behindT t x).flatMap (fun u => waysT u l) from h)
    exact List.mem_flatMap.2 ⟨v, behind_open hv, hu⟩
  | x :: l, k + 1, e, t, u, hk, h => by
    rw [List.set_cons_succ]
    obtain ⟨v, hv, hu⟩ := List.mem_flatMap.1 (show u ∈ (behindT t x).flatMap (fun u => waysT u l) from h)
    exact List.mem_flatMap.2 ⟨v, hv, ways_open l k e v u (by simpa using hk) hu⟩
theorem ends_open {l : List EvT} {k : Nat} {e : EvT} {t : List Rec} (hk : l[k]? = some e) : (∀ u ∈ endsT t l, u ∈ endsT t (l.set k (evU e.f0))) ∧ (endsT t l).length ≤ (endsT t (l.set k (evU e.f0))).length := by
  have h : ∀ u ∈ endsT t l, u ∈ endsT t (l.set k (evU e.f0)) := fun u hu => mem_dd.2 (ways_open l k e t u hk (mem_dd.1 hu))
  exact ⟨h, nodup_len (dd_nodup _) h⟩
theorem open_first {t t' : List Rec} {l : List EvT} {k : Nat} {e : EvT} (h : RunT t l t') (hk : l[k]? = some e) : firstT t (l.set k (evU e.f0)) (l.set k (evU e.f0)).length = (l.set k (evU e.f0)).length := by
  refine first_end (fun hz => ?_)
  rw [List.take_length] at hz
  have := (ends_open (t := t) hk).1 _ (run_ends h)
  rw [hz] at this
  cases this
theorem dd_dd {α : Type} [DecidableEq α] (l : List α) : dd (dd l) = dd l := by
  have h := dd_flat (fun x : α => [x]) l
  have e : ∀ m : List α, m.flatMap (fun x => [x]) = m := fun m => by
    induction m with
    | nil => rfl
    | cons x xs ih => rw [List.flatMap_cons, ih]; rfl
  rwa [e, e] at h
theorem dd_flat_in {α β : Type} [DecidableEq α] [DecidableEq β] (f : α → List β) : ∀ (l : List α), dd (l.flatMap (fun x => dd (f x))) = dd (l.flatMap f)
  | [] => rfl
  | x :: xs => by
    rw [List.flatMap_cons, List.flatMap_cons, dd_append, dd_append, dd_flat_in f xs, dd_dd]
    congr 2
    funext y
    rw [decide_eq_decide, mem_dd]
theorem parts_is (t : List Rec) (l : List EvT) (k : Nat) : endsT t l = dd ((endsT t (l.take k)).flatMap (fun u => endsT u (l.drop k))) := by
  unfold endsT
  rw [dd_flat_in, dd_flat, ← ways_append, List.take_append_drop]
theorem behind_tabOk {t : List Rec} {e : EvT} (h : tabOk t = true) : ∀ u ∈ behindT t e, tabOk u = true := fun u hu => by
  have hd := doT_ok e.f0 h
  unfold behindT at hu
  split at hu
  · split at hu
    · rw [List.mem_singleton.1 hu]; exact hd
    · cases hu
  · rcases List.mem_cons.1 hu with rfl | hu
    · exact hd
    · rw [List.mem_singleton.1 hu]; exact h
theorem ways_tabOk : ∀ (l : List EvT) (t : List Rec), tabOk t = true → ∀ u ∈ waysT t l, tabOk u = true
  | [], t, h, u, hu => by rw [List.mem_singleton.1 (show u ∈ [t] from hu)]; exact h
  | e :: l, t, h, u, hu => by
    obtain ⟨v, hv, hu⟩ := List.mem_flatMap.1 (show u ∈ (behindT t e).flatMap (fun u => waysT u l) from hu)
    exact ways_tabOk l v (behind_tabOk h v hv) u hu
theorem ends_tabOk {t : List Rec} {l : List EvT} (h : tabOk t = true) : ∀ u ∈ endsT t l, tabOk u = true := fun u hu => ways_tabOk l t h u (mem_dd.1 hu)
theorem endsE_ok {t : List Rec} {l : List EvT} (h : tabOk t = true) (h1 : l.length ≤ 16) (h2 : l.countP (fun e => !e.f1) ≤ 8) : endsE t l = (0, endsT t l) := if_pos ⟨h, by unfold evOk; rw [Bool.and_eq_true, decide_eq_true_eq, decide_eq_true_eq]; exact ⟨by omega, h2⟩⟩
theorem firstE_ok {t : List Rec} {l : List EvT} (h : tabOk t = true) (h1 : l.length ≤ 16) (h2 : l.countP (fun e => !e.f1) ≤ 8) : firstE t l = (firstT t l l.length : Int) := if_pos ⟨h, by unfold evOk; rw [Bool.and_eq_true, decide_eq_true_eq, decide_eq_true_eq]; exact ⟨by omega, h2⟩⟩
theorem count_take (l : List EvT) (k : Nat) : (l.take k).countP (fun e => !e.f1) ≤ l.countP (fun e => !e.f1) := List.Sublist.countP_le (List.take_sublist k l)
theorem count_drop (l : List EvT) (k : Nat) : (l.drop k).countP (fun e => !e.f1) ≤ l.countP (fun e => !e.f1) := List.Sublist.countP_le (List.drop_sublist k l)
theorem wrap_ne' (x : Int) : ¬ IntKind.i64.wrap (x + 1) = x := by
  rw [IntKind.wrap_i64]
  omega
theorem wrap_ne (x : Int) : ¬ wrap64 (x + 1) = x := by
  unfold wrap64
  omega

end Go.Proofs.Ytadhfedbgeenlaa.H

/- The law's awake: the first calls answer as fixed. -/
namespace Go.Proofs.Ytadhfedbgeenlaa.H
open Go.RowKit Go.Proofs.YtadhfedbgeenlaaW.PrintWords Go.Proofs.YtadhfedbgeenlaaW.PrintLast Go.Proofs.YtadhfedbgeenlaaW.PrintMore
set_option linter.unusedVariables false
set_option linter.unusedSimpArgs false
namespace Aw
def oP : OpT := ⟨2, ⟨#[97]⟩, ⟨#[120]⟩, 0, ⟨#[]⟩, 0, ⟨#[]⟩⟩
def oG : OpT := ⟨1, ⟨#[97]⟩, ⟨#[]⟩, 0, ⟨#[]⟩, 0, ⟨#[]⟩⟩
def l0 : List EvT := [evU oP, evK oG ⟨70, 0, ⟨#[]⟩, []⟩]
def l1 : List EvT := [evU oP, evK oG ⟨0, 2, ⟨#[]⟩, []⟩]
def zR : Rec := ⟨⟨#[]⟩, ⟨#[]⟩, 0, 0, ⟨#[]⟩, []⟩
def zE : EvT := evU ⟨0, ⟨#[]⟩, ⟨#[]⟩, 0, ⟨#[]⟩, 0, ⟨#[]⟩⟩
set_option maxRecDepth 100000
theorem v0 : endsE [] l0 = (0, [[]]) := by decide +kernel
theorem v1 : (endsE [] (l0.take 1)).1 = 0 ∧ (endsE [] (l0.take 1)).2.map (·.length) = [1, 0] := by decide +kernel
theorem vq : (endsE [] (l0.take 1)).2 = [[⟨⟨#[97]⟩, ⟨#[120]⟩, 1, 0, ⟨#[]⟩, []⟩], []] := by decide +kernel
theorem v2 : endsE [] l1 = (0, []) := by decide +kernel
theorem v3 : (endsE [zR] l1).1 = 1 := by decide +kernel
theorem v4 : firstE [] l1 = 1 := by decide +kernel
theorem v5 : evOk l1 = true := by decide +kernel
theorem v6 : evOk (List.replicate 9 zE) = false := by decide +kernel
end Aw
open Aw
/-- A row of literal cells. -/
theorem C_cells {α : Type} (d : Kd α) {W : World} {b T : Nat} {cells : Array Value} {l : List α} (h : W.heap[b]? = some (.cells cells T (0, 0))) (hm : l.length ≤ 9223372036854775807) (hf : ∀ j p, l[j]? = some p → ∃ c, c.length = d.sz ∧ d.K W p c ∧ ∀ i u, c[i]? = some u → cells[j * d.sz + i]? = some u) : Kd.C d W (some ⟨b, 0, none⟩) l.length l := by
  refine ⟨rfl, hm, fun _ => ⟨⟨b, 0, none⟩, rfl, fun j p hj => ?_⟩⟩
  obtain ⟨c, h1, h2, h3⟩ := hf j p hj
  refine ⟨c, h1, h2, fun i u hu => ?_⟩
  rw [Addr.add_lit, Nat.zero_add]
  exact (blk_cell h _).trans (h3 i u hu)

theorem C_nilR (w : World) : Kd.C k54 w none ([] : List S54).length [] := (Kd.N_reads' (Kd.N_nil k54 54 w 0 (fun _ => True))).2.2
theorem Pl_nil : PlainT [] := fun x hx => by simp at hx
theorem C_ev (W : World) (b : Nat) (l : List EvT) (cells : Array Value) (h : W.heap[b]? = some (.cells cells 38 (0, 0))) (hm : l.length ≤ 100) (h3 : ∀ e ∈ l, e.f2.f3 = []) (hf : ∀ j e, l[j]? = some e → ∀ i u, ([.int .i64 e.f0.f0, .string e.f0.f1, .string e.f0.f2, .int .i64 e.f0.f3, .string e.f0.f4, .int .i64 e.f0.f5, .string e.f0.f6, .bool e.f1, .int .i64 e.f2.f0, .int .i64 e.f2.f1, .string e.f2.f2, .slice none 0 0] : List Value)[i]? = some u → cells[j * 12 + i]? = some u) : Kd.C k38 W (some ⟨b, 0, none⟩) l.length l :=
  C_cells k38 h (by omega) fun j e he => by
    have h4 := h3 e (List.mem_of_getElem? he)
    refine ⟨_, rfl, k38_mk W e (A11 := none) (c11 := 0) (by rw [h4]; decide) (by rw [h4]; exact (Kd.N_reads' (Kd.N_nil Kd.string 9 W 0 (fun _ => True))).2.2), ?_⟩
    rw [h4]
    exact hf j e he
theorem C_two {W : World} {b : Nat} (r s : Int) (l : List EvT) (hl : l = [evU oP, evK oG ⟨r, s, ⟨#[]⟩, []⟩]) (h : W.heap[b]? = some (.cells #[.int .i64 2, .string ⟨#[97]⟩, .string ⟨#[120]⟩, .int .i64 0, .string ⟨#[]⟩, .int .i64 0, .string ⟨#[]⟩, .bool false, .int .i64 0, .int .i64 0, .string ⟨#[]⟩, .slice none 0 0, .int .i64 1, .string ⟨#[97]⟩, .string ⟨#[]⟩, .int .i64 0, .string ⟨#[]⟩, .int .i64 0, .string ⟨#[]⟩, .bool true, .int .i64 r, .int .i64 s, .string ⟨#[]⟩, .slice none 0 0] 38 (0, 0))) : Kd.C k38 W (some ⟨b, 0, none⟩) l.length l := by
  subst hl
  refine C_ev W b _ _ h (by simp) (by simp) (fun j e he => ?_)
  rcases j with _ | _ | j
  · obtain rfl : evU oP = e := by simpa using he
    intro i u hu
    have hi : i < 12 := (List.getElem?_eq_some_iff.1 hu).1
    rcases i with _ | _ | _ | _ | _ | _ | _ | _ | _ | _ | _ | _ | i <;> first | exact hu | omega
  · obtain rfl : evK oG ⟨r, s, ⟨#[]⟩, []⟩ = e := by simpa using he
    intro i u hu
    have hi : i < 12 := (List.getElem?_eq_some_iff.1 hu).1
    rcases i with _ | _ | _ | _ | _ | _ | _ | _ | _ | _ | _ | _ | i <;> first | exact hu | omega
  · simp at he
theorem C_l0 {W : World} {b : Nat} (h : W.heap[b]? = some (.cells #[.int .i64 2, .string ⟨#[97]⟩, .string ⟨#[120]⟩, .int .i64 0, .string ⟨#[]⟩, .int .i64 0, .string ⟨#[]⟩, .bool false, .int .i64 0, .int .i64 0, .string ⟨#[]⟩, .slice none 0 0, .int .i64 1, .string ⟨#[97]⟩, .string ⟨#[]⟩, .int .i64 0, .string ⟨#[]⟩, .int .i64 0, .string ⟨#[]⟩, .bool true, .int .i64 70, .int .i64 0, .string ⟨#[]⟩, .slice none 0 0] 38 (0, 0))) : Kd.C k38 W (some ⟨b, 0, none⟩) l0.length l0 := C_two 70 0 l0 rfl h
theorem C_l1 {W : World} {b : Nat} (h : W.heap[b]? = some (.cells #[.int .i64 2, .string ⟨#[97]⟩, .string ⟨#[120]⟩, .int .i64 0, .string ⟨#[]⟩, .int .i64 0, .string ⟨#[]⟩, .bool false, .int .i64 0, .int .i64 0, .string ⟨#[]⟩, .slice none 0 0, .int .i64 1, .string ⟨#[97]⟩, .string ⟨#[]⟩, .int .i64 0, .string ⟨#[]⟩, .int .i64 0, .string ⟨#[]⟩, .bool true, .int .i64 0, .int .i64 2, .string ⟨#[]⟩, .slice none 0 0] 38 (0, 0))) : Kd.C k38 W (some ⟨b, 0, none⟩) l1.length l1 := C_two 0 2 l1 rfl h
theorem C_l01 {W : World} {b : Nat} (h : W.heap[b]? = some (.cells #[.int .i64 2, .string ⟨#[97]⟩, .string ⟨#[120]⟩, .int .i64 0, .string ⟨#[]⟩, .int .i64 0, .string ⟨#[]⟩, .bool false, .int .i64 0, .int .i64 0, .string ⟨#[]⟩, .slice none 0 0, .int .i64 1, .string ⟨#[97]⟩, .string ⟨#[]⟩, .int .i64 0, .string ⟨#[]⟩, .int .i64 0, .string ⟨#[]⟩, .bool true, .int .i64 70, .int .i64 0, .string ⟨#[]⟩, .slice none 0 0] 38 (0, 0))) : Kd.C k38 W (some ⟨b, 0, none⟩) (l0.take 1).length (l0.take 1) := by
  refine C_ev W b _ _ h (by decide) (by simp [l0]) (fun j e he => ?_)
  rcases j with _ | j
  · obtain rfl : evU oP = e := by simpa [l0] using he
    intro i u hu
    have hi : i < 12 := (List.getElem?_eq_some_iff.1 hu).1
    rcases i with _ | _ | _ | _ | _ | _ | _ | _ | _ | _ | _ | _ | i <;> first | exact hu | omega
  · simp [l0] at he
theorem aw_ends {t : List S54} {l : List EvT} {n1 n2 n : Nat} {e : Int} (A : Option Addr) (c : Nat) (B : Option Addr) (cb : Nat) (w : World) (h1 : t.length = n1) (h2 : l.length = n2) (hr : Kd.C k54 w A t.length t) (hv : Kd.C k38 w B l.length l) (hcb : l.length ≤ cb) (hp : PlainT t) (hlen : t.length ≤ 1000) (he : (endsE t l).1 = e) (hn : (endsE t l).2.length = n) :
    Calls Try.prog 13 #[.slice A n1 c, .slice B n2 cb] w fun r w' => Below w.heap.size w w' ∧ ∃ A' c', r = .returned (.tuple #[.slice A' n c', .int .i64 e]) ∧ Kd.C (Kd.slice 54 k54) w' A' n (endsE t l).2 := by
  subst h1; subst h2; subst he; subst hn
  exact ends_calls t l A c B cb w hr hv hcb hp hlen

theorem E0 {W : World} {b : Nat} (h : W.heap[b]? = some (.cells #[.int .i64 2, .string ⟨#[97]⟩, .string ⟨#[120]⟩, .int .i64 0, .string ⟨#[]⟩, .int .i64 0, .string ⟨#[]⟩, .bool false, .int .i64 0, .int .i64 0, .string ⟨#[]⟩, .slice none 0 0, .int .i64 1, .string ⟨#[97]⟩, .string ⟨#[]⟩, .int .i64 0, .string ⟨#[]⟩, .int .i64 0, .string ⟨#[]⟩, .bool true, .int .i64 70, .int .i64 0, .string ⟨#[]⟩, .slice none 0 0] 38 (0, 0))) : Calls Try.prog 13 #[.slice none 0 0, .slice (some ⟨b, 0, none⟩) 2 2] W fun r w' => Below W.heap.size W w' ∧ ∃ A' c', r = .returned (.tuple #[.slice A' 1 c', .int .i64 0]) ∧ Kd.C (Kd.slice 54 k54) w' A' 1 [[]] := by
  have h1 := aw_ends (n1 := 0) (n2 := 2) (n := 1) (e := 0) (l := l0) none 0 (some ⟨b, 0, none⟩) 2 W rfl rfl (C_nilR W) (C_l0 h) (Nat.le_refl 2) Pl_nil (Nat.zero_le _) (by rw [v0]) (by rw [v0]; rfl)
  rw [v0] at h1
  exact h1
theorem E1 {W : World} {b : Nat} (h : W.heap[b]? = some (.cells #[.int .i64 2, .string ⟨#[97]⟩, .string ⟨#[120]⟩, .int .i64 0, .string ⟨#[]⟩, .int .i64 0, .string ⟨#[]⟩, .bool false, .int .i64 0, .int .i64 0, .string ⟨#[]⟩, .slice none 0 0, .int .i64 1, .string ⟨#[97]⟩, .string ⟨#[]⟩, .int .i64 0, .string ⟨#[]⟩, .int .i64 0, .string ⟨#[]⟩, .bool true, .int .i64 70, .int .i64 0, .string ⟨#[]⟩, .slice none 0 0] 38 (0, 0))) : Calls Try.prog 13 #[.slice none 0 0, .slice (some ⟨b, 0, none⟩) 1 2] W fun r w' => Below W.heap.size W w' ∧ ∃ (A' : Option Addr) (c' : Nat) (q : Rec), r = .returned (.tuple #[.slice A' 2 c', .int .i64 0]) ∧ Kd.C (Kd.slice 54 k54) w' A' 2 [[q], []] := by
  obtain ⟨q, hq⟩ : ∃ q, (endsE [] (l0.take 1)).2 = [[q], []] := ⟨_, vq⟩
  have h1 := aw_ends (n1 := 0) (n2 := 1) (n := 2) (e := 0) (l := l0.take 1) none 0 (some ⟨b, 0, none⟩) 2 W rfl rfl (C_nilR W) (C_l01 h) (Nat.le_succ 1) Pl_nil (Nat.zero_le _) v1.1 (by rw [hq]; rfl)
  rw [hq] at h1
  exact h1.mono fun _ _ ⟨hb, A', c', h2, h3⟩ => ⟨hb, A', c', q, h2, h3⟩
theorem E2 {W : World} {b : Nat} (h : W.heap[b]? = some (.cells #[.int .i64 2, .string ⟨#[97]⟩, .string ⟨#[120]⟩, .int .i64 0, .string ⟨#[]⟩, .int .i64 0, .string ⟨#[]⟩, .bool false, .int .i64 0, .int .i64 0, .string ⟨#[]⟩, .slice none 0 0, .int .i64 1, .string ⟨#[97]⟩, .string ⟨#[]⟩, .int .i64 0, .string ⟨#[]⟩, .int .i64 0, .string ⟨#[]⟩, .bool true, .int .i64 0, .int .i64 2, .string ⟨#[]⟩, .slice none 0 0] 38 (0, 0))) : Calls Try.prog 13 #[.slice none 0 0, .slice (some ⟨b, 0, none⟩) 2 2] W fun r w' => Below W.heap.size W w' ∧ ∃ A' c', r = .returned (.tuple #[.slice A' 0 c', .int .i64 0]) := by
  have h1 := aw_ends (n1 := 0) (n2 := 2) (n := 0) (e := 0) (l := l1) none 0 (some ⟨b, 0, none⟩) 2 W rfl rfl (C_nilR W) (C_l1 h) (Nat.le_refl 2) Pl_nil (Nat.zero_le _) (by rw [v2]) (by rw [v2]; rfl)
  exact h1.mono fun _ _ ⟨hb, A', c', h2, h3⟩ => ⟨hb, A', c', h2⟩
theorem C_zr {W : World} {b : Nat} (h : W.heap[b]? = some (.cells #[.string ⟨#[]⟩, .string ⟨#[]⟩, .int .i64 0, .int .i64 0, .string ⟨#[]⟩, .slice none 0 0] 54 (0, 0))) : Kd.C k54 W (some ⟨b, 0, none⟩) [zR].length [zR] := by
  refine C_cells k54 h (Nat.le_of_ble_eq_true rfl) fun j p hj => ?_
  rcases j with _ | j
  · obtain rfl : zR = p := by simpa using hj
    refine ⟨_, rfl, k54_mk W zR (A5 := none) (c5 := 0) (Nat.le_refl 0) (Kd.N_reads' (Kd.N_nil k60 60 W 0 (fun _ => True))).2.2, fun i u hu => ?_⟩
    have hi : i < 6 := (List.getElem?_eq_some_iff.1 hu).1
    rcases i with _ | _ | _ | _ | _ | _ | i <;> first | exact hu | omega
  · simp at hj
theorem Pl_z : PlainT [zR] := fun x hx => by
  obtain rfl := List.mem_singleton.1 hx
  exact ⟨rfl, Nat.zero_le _⟩
theorem E3 {W : World} {b g : Nat} (h : W.heap[b]? = some (.cells #[.int .i64 2, .string ⟨#[97]⟩, .string ⟨#[120]⟩, .int .i64 0, .string ⟨#[]⟩, .int .i64 0, .string ⟨#[]⟩, .bool false, .int .i64 0, .int .i64 0, .string ⟨#[]⟩, .slice none 0 0, .int .i64 1, .string ⟨#[97]⟩, .string ⟨#[]⟩, .int .i64 0, .string ⟨#[]⟩, .int .i64 0, .string ⟨#[]⟩, .bool true, .int .i64 0, .int .i64 2, .string ⟨#[]⟩, .slice none 0 0] 38 (0, 0))) (hg : W.heap[g]? = some (.cells #[.string ⟨#[]⟩, .string ⟨#[]⟩, .int .i64 0, .int .i64 0, .string ⟨#[]⟩, .slice none 0 0] 54 (0, 0))) : Calls Try.prog 13 #[.slice (some ⟨g, 0, none⟩) 1 1, .slice (some ⟨b, 0, none⟩) 2 2] W fun r w' => Below W.heap.size W w' ∧ ∃ A' n' c', r = .returned (.tuple #[.slice A' n' c', .int .i64 1]) := by
  have h1 := aw_ends (n1 := 1) (n2 := 2) (n := (endsE [zR] l1).2.length) (e := 1) (l := l1) (some ⟨g, 0, none⟩) 1 (some ⟨b, 0, none⟩) 2 W rfl rfl (C_zr hg) (C_l1 h) (Nat.le_refl 2) Pl_z (Nat.le_of_ble_eq_true rfl) v3 rfl
  exact h1.mono fun _ _ ⟨hb, A', c', h2, h3⟩ => ⟨hb, A', _, c', h2⟩
theorem E4 {W : World} {b : Nat} (h : W.heap[b]? = some (.cells #[.int .i64 2, .string ⟨#[97]⟩, .string ⟨#[120]⟩, .int .i64 0, .string ⟨#[]⟩, .int .i64 0, .string ⟨#[]⟩, .bool false, .int .i64 0, .int .i64 0, .string ⟨#[]⟩, .slice none 0 0, .int .i64 1, .string ⟨#[97]⟩, .string ⟨#[]⟩, .int .i64 0, .string ⟨#[]⟩, .int .i64 0, .string ⟨#[]⟩, .bool true, .int .i64 0, .int .i64 2, .string ⟨#[]⟩, .slice none 0 0] 38 (0, 0))) : Calls Try.prog 16 #[.slice none 0 0, .slice (some ⟨b, 0, none⟩) 2 2] W fun e w' => e = .returned (.int .i64 1) ∧ Below W.heap.size W w' := by
  have h1 := first_calls [] l1 none 0 (some ⟨b, 0, none⟩) 2 W (C_nilR W) (C_l1 h) (Nat.le_refl 2) Pl_nil (Nat.zero_le _)
  rw [v4] at h1
  exact h1
theorem E5 {W : World} {b : Nat} (h : W.heap[b]? = some (.cells #[.int .i64 2, .string ⟨#[97]⟩, .string ⟨#[120]⟩, .int .i64 0, .string ⟨#[]⟩, .int .i64 0, .string ⟨#[]⟩, .bool false, .int .i64 0, .int .i64 0, .string ⟨#[]⟩, .slice none 0 0, .int .i64 1, .string ⟨#[97]⟩, .string ⟨#[]⟩, .int .i64 0, .string ⟨#[]⟩, .int .i64 0, .string ⟨#[]⟩, .bool true, .int .i64 0, .int .i64 2, .string ⟨#[]⟩, .slice none 0 0] 38 (0, 0))) : Calls Try.prog 18 #[.slice (some ⟨b, 0, none⟩) 2 2] W fun e w' => e = .returned (.bool true) ∧ Below W.heap.size W w' := by
  have h1 := evRight_calls (some ⟨b, 0, none⟩) 2 l1 W (C_l1 h)
  rw [v5] at h1
  exact h1

end Go.Proofs.Ytadhfedbgeenlaa.H

/- The law's awake: the walk. -/
namespace Go.Proofs.Ytadhfedbgeenlaa.H
open Go.RowKit Go.Proofs.YtadhfedbgeenlaaW.PrintWords Go.Proofs.YtadhfedbgeenlaaW.PrintLast Go.Proofs.YtadhfedbgeenlaaW.PrintMore
set_option linter.unusedVariables false
set_option linter.unusedSimpArgs false
open Aw
abbrev put4at (W : World) (g o : Nat) (x y z u : Value) : World := (((W.setCell ⟨g, o, none⟩ x).setCell ⟨g, o + 1, none⟩ y).setCell ⟨g, o + 2, none⟩ z).setCell ⟨g, o + 3, none⟩ u
theorem put4at_below {W w0 : World} {g base o : Nat} {x y z u : Value} (h : Below base w0 W) (hg : base ≤ g) : Below base w0 (put4at W g o x y z u) := (((h.setCell (p := ⟨g, o, none⟩) hg _).setCell (p := ⟨g, o + 1, none⟩) hg _).setCell (p := ⟨g, o + 2, none⟩) hg _).setCell (p := ⟨g, o + 3, none⟩) hg _
theorem set_keep {W : World} {a p : Addr} {v x y : Value} (h : W.cell? a = some v) (hx : W.cell? p = some x) (hn : x = v → y = v) : (W.setCell p y).cell? a = some v := by
  by_cases e : p = a
  · subst e
    rw [h] at hx
    injection hx with hx
    rw [World.cell?_setCell_same _ _ _ h, hn hx.symm]
  · rw [World.cell?_setCell_other _ _ _ _ e]
    exact h
theorem put4_keep {W : World} {g n c : Nat} {A : Option Addr} {a : Addr} (h : W.heap[g]? = some (.cells #[.int .i64 2, .string ⟨#[97]⟩, .string ⟨#[120]⟩, .int .i64 0, .string ⟨#[]⟩, .int .i64 0, .string ⟨#[]⟩, .bool false, .int .i64 0, .int .i64 0, .string ⟨#[]⟩, .slice none 0 0, .int .i64 1, .string ⟨#[97]⟩, .string ⟨#[]⟩, .int .i64 0, .string ⟨#[]⟩, .int .i64 0, .string ⟨#[]⟩, .bool true, .int .i64 70, .int .i64 0, .string ⟨#[]⟩, .slice none 0 0] 38 (0, 0))) (ha : W.cell? a = some (.slice A n c)) :
    (put4at W g 20 (.int .i64 0) (.int .i64 2) (.string ⟨#[]⟩) (.slice none 0 0)).cell? a = some (.slice A n c) := by
  have h0 := (blk_cell h 20).trans rfl
  have h1 := (blk_cell h 21).trans rfl
  have h2 := (blk_cell h 22).trans rfl
  have h3 := (blk_cell h 23).trans rfl
  have e : ∀ (W : World) (i j : Nat) (u : Value), i ≠ j → (W.setCell ⟨g, i, none⟩ u).cell? ⟨g, j, none⟩ = W.cell? ⟨g, j, none⟩ := fun W i j u hij => World.cell?_setCell_other _ _ _ _ (fun e => hij (by injection e))
  refine set_keep (set_keep (set_keep (set_keep ha h0 (by intro q; cases q)) ((e _ _ _ _ (by decide)).trans h1) (by intro q; cases q)) ((e _ _ _ _ (by decide)).trans ((e _ _ _ _ (by decide)).trans h2)) (by intro q; cases q)) ((e _ _ _ _ (by decide)).trans ((e _ _ _ _ (by decide)).trans ((e _ _ _ _ (by decide)).trans h3))) (fun q => q)
theorem put4at_at {W : World} {g : Nat} (h : W.heap[g]? = some (.cells #[.int .i64 2, .string ⟨#[97]⟩, .string ⟨#[120]⟩, .int .i64 0, .string ⟨#[]⟩, .int .i64 0, .string ⟨#[]⟩, .bool false, .int .i64 0, .int .i64 0, .string ⟨#[]⟩, .slice none 0 0, .int .i64 1, .string ⟨#[97]⟩, .string ⟨#[]⟩, .int .i64 0, .string ⟨#[]⟩, .int .i64 0, .string ⟨#[]⟩, .bool true, .int .i64 70, .int .i64 0, .string ⟨#[]⟩, .slice none 0 0] 38 (0, 0))) : (put4at W g 20 (.int .i64 0) (.int .i64 2) (.string ⟨#[]⟩) (.slice none 0 0)).heap[g]? = some (.cells #[.int .i64 2, .string ⟨#[97]⟩, .string ⟨#[120]⟩, .int .i64 0, .string ⟨#[]⟩, .int .i64 0, .string ⟨#[]⟩, .bool false, .int .i64 0, .int .i64 0, .string ⟨#[]⟩, .slice none 0 0, .int .i64 1, .string ⟨#[97]⟩, .string ⟨#[]⟩, .int .i64 0, .string ⟨#[]⟩, .int .i64 0, .string ⟨#[]⟩, .bool true, .int .i64 0, .int .i64 2, .string ⟨#[]⟩, .slice none 0 0] 38 (0, 0)) := by
  simp [World.setCell, Array.getElem?_modify, h]

set_option maxRecDepth 100000 in
theorem mk9 (w : World) : (Instr.makeSlice 24 (.int .i64 9) (.int .i64 9)).run Try.prog w = .ok (.slice (some ⟨w.heap.size, 0, none⟩) 9 9) (w.alloc (.cells #[.int .i64 0, .string ⟨#[]⟩, .string ⟨#[]⟩, .int .i64 0, .string ⟨#[]⟩, .int .i64 0, .string ⟨#[]⟩, .bool false, .int .i64 0, .int .i64 0, .string ⟨#[]⟩, .slice none 0 0, .int .i64 0, .string ⟨#[]⟩, .string ⟨#[]⟩, .int .i64 0, .string ⟨#[]⟩, .int .i64 0, .string ⟨#[]⟩, .bool false, .int .i64 0, .int .i64 0, .string ⟨#[]⟩, .slice none 0 0, .int .i64 0, .string ⟨#[]⟩, .string ⟨#[]⟩, .int .i64 0, .string ⟨#[]⟩, .int .i64 0, .string ⟨#[]⟩, .bool false, .int .i64 0, .int .i64 0, .string ⟨#[]⟩, .slice none 0 0, .int .i64 0, .string ⟨#[]⟩, .string ⟨#[]⟩, .int .i64 0, .string ⟨#[]⟩, .int .i64 0, .string ⟨#[]⟩, .bool false, .int .i64 0, .int .i64 0, .string ⟨#[]⟩, .slice none 0 0, .int .i64 0, .string ⟨#[]⟩, .string ⟨#[]⟩, .int .i64 0, .string ⟨#[]⟩, .int .i64 0, .string ⟨#[]⟩, .bool false, .int .i64 0, .int .i64 0, .string ⟨#[]⟩, .slice none 0 0, .int .i64 0, .string ⟨#[]⟩, .string ⟨#[]⟩, .int .i64 0, .string ⟨#[]⟩, .int .i64 0, .string ⟨#[]⟩, .bool false, .int .i64 0, .int .i64 0, .string ⟨#[]⟩, .slice none 0 0, .int .i64 0, .string ⟨#[]⟩, .string ⟨#[]⟩, .int .i64 0, .string ⟨#[]⟩, .int .i64 0, .string ⟨#[]⟩, .bool false, .int .i64 0, .int .i64 0, .string ⟨#[]⟩, .slice none 0 0, .int .i64 0, .string ⟨#[]⟩, .string ⟨#[]⟩, .int .i64 0, .string ⟨#[]⟩, .int .i64 0, .string ⟨#[]⟩, .bool false, .int .i64 0, .int .i64 0, .string ⟨#[]⟩, .slice none 0 0, .int .i64 0, .string ⟨#[]⟩, .string ⟨#[]⟩, .int .i64 0, .string ⟨#[]⟩, .int .i64 0, .string ⟨#[]⟩, .bool false, .int .i64 0, .int .i64 0, .string ⟨#[]⟩, .slice none 0 0] 38)) := by kernel_rfl
set_option maxHeartbeats 4000000 in
set_option maxRecDepth 100000 in
theorem C_z9 {W : World} {b : Nat} (h : W.heap[b]? = some (.cells #[.int .i64 0, .string ⟨#[]⟩, .string ⟨#[]⟩, .int .i64 0, .string ⟨#[]⟩, .int .i64 0, .string ⟨#[]⟩, .bool false, .int .i64 0, .int .i64 0, .string ⟨#[]⟩, .slice none 0 0, .int .i64 0, .string ⟨#[]⟩, .string ⟨#[]⟩, .int .i64 0, .string ⟨#[]⟩, .int .i64 0, .string ⟨#[]⟩, .bool false, .int .i64 0, .int .i64 0, .string ⟨#[]⟩, .slice none 0 0, .int .i64 0, .string ⟨#[]⟩, .string ⟨#[]⟩, .int .i64 0, .string ⟨#[]⟩, .int .i64 0, .string ⟨#[]⟩, .bool false, .int .i64 0, .int .i64 0, .string ⟨#[]⟩, .slice none 0 0, .int .i64 0, .string ⟨#[]⟩, .string ⟨#[]⟩, .int .i64 0, .string ⟨#[]⟩, .int .i64 0, .string ⟨#[]⟩, .bool false, .int .i64 0, .int .i64 0, .string ⟨#[]⟩, .slice none 0 0, .int .i64 0, .string ⟨#[]⟩, .string ⟨#[]⟩, .int .i64 0, .string ⟨#[]⟩, .int .i64 0, .string ⟨#[]⟩, .bool false, .int .i64 0, .int .i64 0, .string ⟨#[]⟩, .slice none 0 0, .int .i64 0, .string ⟨#[]⟩, .string ⟨#[]⟩, .int .i64 0, .string ⟨#[]⟩, .int .i64 0, .string ⟨#[]⟩, .bool false, .int .i64 0, .int .i64 0, .string ⟨#[]⟩, .slice none 0 0, .int .i64 0, .string ⟨#[]⟩, .string ⟨#[]⟩, .int .i64 0, .string ⟨#[]⟩, .int .i64 0, .string ⟨#[]⟩, .bool false, .int .i64 0, .int .i64 0, .string ⟨#[]⟩, .slice none 0 0, .int .i64 0, .string ⟨#[]⟩, .string ⟨#[]⟩, .int .i64 0, .string ⟨#[]⟩, .int .i64 0, .string ⟨#[]⟩, .bool false, .int .i64 0, .int .i64 0, .string ⟨#[]⟩, .slice none 0 0, .int .i64 0, .string ⟨#[]⟩, .string ⟨#[]⟩, .int .i64 0, .string ⟨#[]⟩, .int .i64 0, .string ⟨#[]⟩, .bool false, .int .i64 0, .int .i64 0, .string ⟨#[]⟩, .slice none 0 0] 38 (0, 0))) : Kd.C k38 W (some ⟨b, 0, none⟩) (List.replicate 9 zE).length (List.replicate 9 zE) := by
  refine C_ev W b _ _ h (by simp) (by simp [zE]) (fun j e he i u hu => ?_)
  have hi : i < 12 := (List.getElem?_eq_some_iff.1 hu).1
  have hj : j < 9 := by simpa using (List.getElem?_eq_some_iff.1 he).1
  obtain rfl : e = zE := List.eq_of_mem_replicate (List.mem_of_getElem? he)
  rw [← hu]
  clear he hu h
  rcases j with _ | _ | _ | _ | _ | _ | _ | _ | _ | j <;> try omega
  all_goals (rcases i with _ | _ | _ | _ | _ | _ | _ | _ | _ | _ | _ | _ | i <;> first | rfl | omega)
theorem E6 {W : World} {b : Nat} (h : W.heap[b]? = some (.cells #[.int .i64 0, .string ⟨#[]⟩, .string ⟨#[]⟩, .int .i64 0, .string ⟨#[]⟩, .int .i64 0, .string ⟨#[]⟩, .bool false, .int .i64 0, .int .i64 0, .string ⟨#[]⟩, .slice none 0 0, .int .i64 0, .string ⟨#[]⟩, .string ⟨#[]⟩, .int .i64 0, .string ⟨#[]⟩, .int .i64 0, .string ⟨#[]⟩, .bool false, .int .i64 0, .int .i64 0, .string ⟨#[]⟩, .slice none 0 0, .int .i64 0, .string ⟨#[]⟩, .string ⟨#[]⟩, .int .i64 0, .string ⟨#[]⟩, .int .i64 0, .string ⟨#[]⟩, .bool false, .int .i64 0, .int .i64 0, .string ⟨#[]⟩, .slice none 0 0, .int .i64 0, .string ⟨#[]⟩, .string ⟨#[]⟩, .int .i64 0, .string ⟨#[]⟩, .int .i64 0, .string ⟨#[]⟩, .bool false, .int .i64 0, .int .i64 0, .string ⟨#[]⟩, .slice none 0 0, .int .i64 0, .string ⟨#[]⟩, .string ⟨#[]⟩, .int .i64 0, .string ⟨#[]⟩, .int .i64 0, .string ⟨#[]⟩, .bool false, .int .i64 0, .int .i64 0, .string ⟨#[]⟩, .slice none 0 0, .int .i64 0, .string ⟨#[]⟩, .string ⟨#[]⟩, .int .i64 0, .string ⟨#[]⟩, .int .i64 0, .string ⟨#[]⟩, .bool false, .int .i64 0, .int .i64 0, .string ⟨#[]⟩, .slice none 0 0, .int .i64 0, .string ⟨#[]⟩, .string ⟨#[]⟩, .int .i64 0, .string ⟨#[]⟩, .int .i64 0, .string ⟨#[]⟩, .bool false, .int .i64 0, .int .i64 0, .string ⟨#[]⟩, .slice none 0 0, .int .i64 0, .string ⟨#[]⟩, .string ⟨#[]⟩, .int .i64 0, .string ⟨#[]⟩, .int .i64 0, .string ⟨#[]⟩, .bool false, .int .i64 0, .int .i64 0, .string ⟨#[]⟩, .slice none 0 0, .int .i64 0, .string ⟨#[]⟩, .string ⟨#[]⟩, .int .i64 0, .string ⟨#[]⟩, .int .i64 0, .string ⟨#[]⟩, .bool false, .int .i64 0, .int .i64 0, .string ⟨#[]⟩, .slice none 0 0] 38 (0, 0))) : Calls Try.prog 18 #[.slice (some ⟨b, 0, none⟩) 9 9] W fun e w' => e = .returned (.bool false) ∧ Below W.heap.size W w' := by
  have h1 := evRight_calls (some ⟨b, 0, none⟩) 9 _ W (C_z9 h)
  rw [v6] at h1
  exact h1

set_option maxHeartbeats 4000000 in
set_option maxRecDepth 100000 in
theorem awake_calls (w : World) : Calls Try.prog 9 #[] w fun e w' => e = .returned (.bool true) ∧ Below w.heap.size w w' := by
  go_enter Try.func9, Try.ntmps9
  go_upto_region 2 with (fail)
  generalize hW0 : w.alloc (.cells #[.int .i64 2, .string ⟨#[97]⟩, .string ⟨#[120]⟩, .int .i64 0, .string ⟨#[]⟩, .int .i64 0, .string ⟨#[]⟩, .bool false, .int .i64 0, .int .i64 0, .string ⟨#[]⟩, .slice none 0 0, .int .i64 1, .string ⟨#[97]⟩, .string ⟨#[]⟩, .int .i64 0, .string ⟨#[]⟩, .int .i64 0, .string ⟨#[]⟩, .bool true, .int .i64 70, .int .i64 0, .string ⟨#[]⟩, .slice none 0 0] 38) = W0
  have HG0 := Lib.hid (show W0.heap[w.heap.size]? = some (.cells #[.int .i64 2, .string ⟨#[97]⟩, .string ⟨#[120]⟩, .int .i64 0, .string ⟨#[]⟩, .int .i64 0, .string ⟨#[]⟩, .bool false, .int .i64 0, .int .i64 0, .string ⟨#[]⟩, .slice none 0 0, .int .i64 1, .string ⟨#[97]⟩, .string ⟨#[]⟩, .int .i64 0, .string ⟨#[]⟩, .int .i64 0, .string ⟨#[]⟩, .bool true, .int .i64 70, .int .i64 0, .string ⟨#[]⟩, .slice none 0 0] 38 (0, 0)) by rw [← hW0]; exact new_at rfl _)
  have HB0 := Lib.hid (show Below w.heap.size w W0 by rw [← hW0]; exact below_alloc (Below.refl _ _) _)
  clear hW0
  have HE0 := Lib.hid (E0 HG0.out)
  go_upto_region 3 with (fail)
  refine HE0.out.mono ?_
  rintro E W1 ⟨hb1, A1, c1, rfl, hca⟩
  have HCA := Lib.hid hca
  have HB1 := Lib.hid hb1
  clear hca hb1 HE0
  have HG1 := Lib.hid (kept_on HB1.out HG0.out)
  have HE1 := Lib.hid (E1 HG1.out)
  go_upto_region 4 with (fail)
  refine HE1.out.mono ?_
  rintro E W2 ⟨hb1, A2, c2, q, rfl, hca⟩
  have HCB := Lib.hid hca
  have HB2 := Lib.hid hb1
  clear hca hb1 HE1
  have HG2 := Lib.hid (kept_on HB2.out HG1.out)
  obtain ⟨ad1, B1, d1, rfl, ha1, _⟩ := at_row HCA.out 0 (by decide) (by decide)
  obtain ⟨ad2, B2, d2, rfl, hb1, _⟩ := at_row HCB.out 0 (by decide) (by decide)
  obtain ⟨ad3, B3, d3, hq3, hb2, _⟩ := at_row HCB.out 1 (by decide) (by decide)
  injection hq3 with hq3
  subst hq3
  have HA1 := Lib.hid (show W2.cell? (ad1.add 0) = some (.slice B1 0 d1) from kept_cell HB2.out ha1)
  have HA2 := Lib.hid (show W2.cell? (ad2.add 0) = some (.slice B2 1 d2) from hb1)
  have HA3 := Lib.hid (show W2.cell? (ad2.add 1) = some (.slice B3 0 d3) from hb2)
  clear ha1 hb1 hb2 HCA HCB
  go_upto_region 4 with (fail)
  have g20 := (blk_cell HG2.out 20).trans rfl
  have f20 := blk_frozen HG2.out 20
  have g21 := (blk_cell HG2.out 21).trans rfl
  have f21 := blk_frozen HG2.out 21
  have g22 := (blk_cell HG2.out 22).trans rfl
  have f22 := blk_frozen HG2.out 22
  have g23 := (blk_cell HG2.out 23).trans rfl
  have f23 := blk_frozen HG2.out 23
  have HG3 := Lib.hid (show ((((W2.setCell ⟨w.heap.size, 20, none⟩ (.int .i64 0)).setCell ⟨w.heap.size, 21, none⟩ (.int .i64 2)).setCell ⟨w.heap.size, 22, none⟩ (.string ⟨#[]⟩)).setCell ⟨w.heap.size, 23, none⟩ (.slice none 0 0)).heap[w.heap.size]? = _ from put4at_at HG2.out)
  have HB3 := Lib.hid (show Below w.heap.size w ((((W2.setCell ⟨w.heap.size, 20, none⟩ (.int .i64 0)).setCell ⟨w.heap.size, 21, none⟩ (.int .i64 2)).setCell ⟨w.heap.size, 22, none⟩ (.string ⟨#[]⟩)).setCell ⟨w.heap.size, 23, none⟩ (.slice none 0 0)) from put4at_below (below_then (below_then HB0.out HB0.out.size HB1.out) (Nat.le_trans HB0.out.size HB1.out.size) HB2.out) (Nat.le_refl _))
  have HC1 := Lib.hid (show ((((W2.setCell ⟨w.heap.size, 20, none⟩ (.int .i64 0)).setCell ⟨w.heap.size, 21, none⟩ (.int .i64 2)).setCell ⟨w.heap.size, 22, none⟩ (.string ⟨#[]⟩)).setCell ⟨w.heap.size, 23, none⟩ (.slice none 0 0)).cell? (ad1.add 0) = _ from put4_keep HG2.out HA1.out)
  have HC2 := Lib.hid (show ((((W2.setCell ⟨w.heap.size, 20, none⟩ (.int .i64 0)).setCell ⟨w.heap.size, 21, none⟩ (.int .i64 2)).setCell ⟨w.heap.size, 22, none⟩ (.string ⟨#[]⟩)).setCell ⟨w.heap.size, 23, none⟩ (.slice none 0 0)).cell? (ad2.add 0) = _ from put4_keep HG2.out HA2.out)
  have HC3 := Lib.hid (show ((((W2.setCell ⟨w.heap.size, 20, none⟩ (.int .i64 0)).setCell ⟨w.heap.size, 21, none⟩ (.int .i64 2)).setCell ⟨w.heap.size, 22, none⟩ (.string ⟨#[]⟩)).setCell ⟨w.heap.size, 23, none⟩ (.slice none 0 0)).cell? (ad2.add 1) = _ from put4_keep HG2.out HA3.out)
  clear HA1 HA2 HA3
  go_upto_region 5 with (fail)
  generalize (((W2.setCell ⟨w.heap.size, 20, none⟩ (.int .i64 0)).setCell ⟨w.heap.size, 21, none⟩ (.int .i64 2)).setCell ⟨w.heap.size, 22, none⟩ (.string ⟨#[]⟩)).setCell ⟨w.heap.size, 23, none⟩ (.slice none 0 0) = W3 at *
  clear g20 f20 g21 f21 g22 f22 g23 f23
  have HE2 := Lib.hid (E2 HG3.out)
  go_upto_region 6 with (fail)
  refine HE2.out.mono ?_
  rintro E W4 ⟨hb1, A4, c4, rfl⟩
  have HB4 := Lib.hid hb1
  clear hb1 HE2
  have HG4 := Lib.hid (kept_on HB4.out HG3.out)
  go_upto_region 7 with (fail)
  generalize hW5 : W4.alloc (.cells #[.string ⟨#[]⟩, .string ⟨#[]⟩, .int .i64 0, .int .i64 0, .string ⟨#[]⟩, .slice none 0 0] 54) = W5
  have HGZ := Lib.hid (show W5.heap[W4.heap.size]? = some (.cells #[.string ⟨#[]⟩, .string ⟨#[]⟩, .int .i64 0, .int .i64 0, .string ⟨#[]⟩, .slice none 0 0] 54 (0, 0)) by rw [← hW5]; exact new_at rfl _)
  have HB5 := Lib.hid (show Below W4.heap.size W4 W5 by rw [← hW5]; exact below_alloc (Below.refl _ _) _)
  clear hW5
  have HG5 := Lib.hid (kept_on HB5.out HG4.out)
  have HE3 := Lib.hid (E3 HG5.out HGZ.out)
  refine HE3.out.mono ?_
  rintro E W6 ⟨hb1, A6, n6, c6, rfl⟩
  have HB6 := Lib.hid hb1
  clear hb1 HE3 HGZ
  have HG6 := Lib.hid (kept_on HB6.out HG5.out)
  have HK := Lib.hid (below_then (below_then HB4.out HB4.out.size HB5.out) (Nat.le_trans HB4.out.size HB5.out.size) HB6.out)
  have c1' := kept_cell HK.out HC1.out
  have c2' := kept_cell HK.out HC2.out
  rw [show ad1.add 0 = ad1 by simp [Addr.add]] at c1'
  rw [show ad2.add 0 = ad2 by simp [Addr.add]] at c2'
  have c3' : W6.cell? ⟨ad2.block, ad2.off + 1, none⟩ = some (.slice B3 0 d3) := kept_cell HK.out HC3.out
  have HB06 := Lib.hid (below_then HB3.out HB3.out.size HK.out)
  go_upto_region 9 with (fail)
  have HE4 := Lib.hid (E4 HG6.out)
  go_wp2_with fail
  refine HE4.out.mono ?_
  rintro E W7 ⟨rfl, hb⟩
  have HB7 := Lib.hid hb
  clear hb HE4
  have HG7 := Lib.hid (kept_on HB7.out HG6.out)
  have HE5 := Lib.hid (E5 HG7.out)
  have HB07 := Lib.hid (below_then HB06.out HB06.out.size HB7.out)
  clear c1' c2' c3'
  go_wp2_with fail
  refine HE5.out.mono ?_
  rintro E W8 ⟨rfl, hb⟩
  have HB8 := Lib.hid hb
  clear hb HE5
  have HB08 := Lib.hid (below_then HB07.out HB07.out.size HB8.out)
  go_wp2_with (rw [mk9])
  generalize hW9 : W8.alloc (.cells #[.int .i64 0, .string ⟨#[]⟩, .string ⟨#[]⟩, .int .i64 0, .string ⟨#[]⟩, .int .i64 0, .string ⟨#[]⟩, .bool false, .int .i64 0, .int .i64 0, .string ⟨#[]⟩, .slice none 0 0, .int .i64 0, .string ⟨#[]⟩, .string ⟨#[]⟩, .int .i64 0, .string ⟨#[]⟩, .int .i64 0, .string ⟨#[]⟩, .bool false, .int .i64 0, .int .i64 0, .string ⟨#[]⟩, .slice none 0 0, .int .i64 0, .string ⟨#[]⟩, .string ⟨#[]⟩, .int .i64 0, .string ⟨#[]⟩, .int .i64 0, .string ⟨#[]⟩, .bool false, .int .i64 0, .int .i64 0, .string ⟨#[]⟩, .slice none 0 0, .int .i64 0, .string ⟨#[]⟩, .string ⟨#[]⟩, .int .i64 0, .string ⟨#[]⟩, .int .i64 0, .string ⟨#[]⟩, .bool false, .int .i64 0, .int .i64 0, .string ⟨#[]⟩, .slice none 0 0, .int .i64 0, .string ⟨#[]⟩, .string ⟨#[]⟩, .int .i64 0, .string ⟨#[]⟩, .int .i64 0, .string ⟨#[]⟩, .bool false, .int .i64 0, .int .i64 0, .string ⟨#[]⟩, .slice none 0 0, .int .i64 0, .string ⟨#[]⟩, .string ⟨#[]⟩, .int .i64 0, .string ⟨#[]⟩, .int .i64 0, .string ⟨#[]⟩, .bool false, .int .i64 0, .int .i64 0, .string ⟨#[]⟩, .slice none 0 0, .int .i64 0, .string ⟨#[]⟩, .string ⟨#[]⟩, .int .i64 0, .string ⟨#[]⟩, .int .i64 0, .string ⟨#[]⟩, .bool false, .int .i64 0, .int .i64 0, .string ⟨#[]⟩, .slice none 0 0, .int .i64 0, .string ⟨#[]⟩, .string ⟨#[]⟩, .int .i64 0, .string ⟨#[]⟩, .int .i64 0, .string ⟨#[]⟩, .bool false, .int .i64 0, .int .i64 0, .string ⟨#[]⟩, .slice none 0 0, .int .i64 0, .string ⟨#[]⟩, .string ⟨#[]⟩, .int .i64 0, .string ⟨#[]⟩, .int .i64 0, .string ⟨#[]⟩, .bool false, .int .i64 0, .int .i64 0, .string ⟨#[]⟩, .slice none 0 0] 38) = W9
  have HGZ := Lib.hid (show W9.heap[W8.heap.size]? = some (.cells #[.int .i64 0, .string ⟨#[]⟩, .string ⟨#[]⟩, .int .i64 0, .string ⟨#[]⟩, .int .i64 0, .string ⟨#[]⟩, .bool false, .int .i64 0, .int .i64 0, .string ⟨#[]⟩, .slice none 0 0, .int .i64 0, .string ⟨#[]⟩, .string ⟨#[]⟩, .int .i64 0, .string ⟨#[]⟩, .int .i64 0, .string ⟨#[]⟩, .bool false, .int .i64 0, .int .i64 0, .string ⟨#[]⟩, .slice none 0 0, .int .i64 0, .string ⟨#[]⟩, .string ⟨#[]⟩, .int .i64 0, .string ⟨#[]⟩, .int .i64 0, .string ⟨#[]⟩, .bool false, .int .i64 0, .int .i64 0, .string ⟨#[]⟩, .slice none 0 0, .int .i64 0, .string ⟨#[]⟩, .string ⟨#[]⟩, .int .i64 0, .string ⟨#[]⟩, .int .i64 0, .string ⟨#[]⟩, .bool false, .int .i64 0, .int .i64 0, .string ⟨#[]⟩, .slice none 0 0, .int .i64 0, .string ⟨#[]⟩, .string ⟨#[]⟩, .int .i64 0, .string ⟨#[]⟩, .int .i64 0, .string ⟨#[]⟩, .bool false, .int .i64 0, .int .i64 0, .string ⟨#[]⟩, .slice none 0 0, .int .i64 0, .string ⟨#[]⟩, .string ⟨#[]⟩, .int .i64 0, .string ⟨#[]⟩, .int .i64 0, .string ⟨#[]⟩, .bool false, .int .i64 0, .int .i64 0, .string ⟨#[]⟩, .slice none 0 0, .int .i64 0, .string ⟨#[]⟩, .string ⟨#[]⟩, .int .i64 0, .string ⟨#[]⟩, .int .i64 0, .string ⟨#[]⟩, .bool false, .int .i64 0, .int .i64 0, .string ⟨#[]⟩, .slice none 0 0, .int .i64 0, .string ⟨#[]⟩, .string ⟨#[]⟩, .int .i64 0, .string ⟨#[]⟩, .int .i64 0, .string ⟨#[]⟩, .bool false, .int .i64 0, .int .i64 0, .string ⟨#[]⟩, .slice none 0 0, .int .i64 0, .string ⟨#[]⟩, .string ⟨#[]⟩, .int .i64 0, .string ⟨#[]⟩, .int .i64 0, .string ⟨#[]⟩, .bool false, .int .i64 0, .int .i64 0, .string ⟨#[]⟩, .slice none 0 0] 38 (0, 0)) by rw [← hW9]; exact new_at rfl _)
  have HB9 := Lib.hid (show Below w.heap.size w W9 by rw [← hW9]; exact below_alloc HB08.out _)
  clear hW9
  have HE6 := Lib.hid (E6 HGZ.out)
  go_wp2_with fail
  refine HE6.out.mono ?_
  rintro E W10 ⟨rfl, hb⟩
  have HB10 := Lib.hid (below_then HB9.out HB9.out.size hb)
  clear hb HE6 HGZ
  go_wp2_with fail
  go_ret
  exact ⟨rfl, HB10.out⟩

end Go.Proofs.Ytadhfedbgeenlaa.H

/- Events in a row of one's own. -/
namespace Go.Proofs.Ytadhfedbgeenlaa.H
open Go.RowKit Go.Proofs.YtadhfedbgeenlaaW.PrintWords Go.Proofs.YtadhfedbgeenlaaW.PrintLast Go.Proofs.YtadhfedbgeenlaaW.PrintMore
set_option linter.unusedVariables false
set_option linter.unusedSimpArgs false

abbrev NE (W : World) (base : Nat) (v : Value) (l : List EvT) : Prop := Kd.N k38 38 W base (fun j => base ≤ j) v l
/-- The revision of event i's reply. -/
theorem atRev {W : World} {base : Nat} {ok : Nat → Prop} {g n cap : Nat} {l : List EvT} (h : Kd.N k38 38 W base ok (.slice (some ⟨g, 0, none⟩) n cap) l) (i : Nat) (hi : i < n) :
    W.cell? ⟨g, i * 12 + 9, none⟩ = some (.int .i64 (rd_T38 l i).f2.f1) ∧ W.frozen? ⟨g, i * 12 + 9, none⟩ = false := by
  obtain ⟨c, _, hK, hc0, hfr⟩ := Kd.N_elem h z38 (i : Int) (by omega) (by omega)
  have hc : ∀ j u, c[j]? = some u → W.cell? ⟨g, i * 12 + j, none⟩ = some u := hc0
  obtain ⟨A5, c5, rfl, l5, g5⟩ := k38_openF hK
  exact ⟨hc 9 _ rfl, hfr 9⟩
def withRev (e : EvT) (r : Int) : EvT := { e with f2 := { e.f2 with f1 := r } }
theorem setRev {W : World} {base : Nat} {ok : Nat → Prop} {g n cap : Nat} {l : List EvT} (h : Kd.N k38 38 W base ok (.slice (some ⟨g, 0, none⟩) n cap) l) (i : Nat) (hi : i < n) (r : Int) :
    Kd.N k38 38 (W.setCell ⟨g, i * 12 + 9, none⟩ (.int .i64 r)) base ok (.slice (some ⟨g, 0, none⟩) n cap) (l.set i (withRev (rd_T38 l i) r)) := by
  obtain ⟨c, _, hK, hc0, hfr⟩ := Kd.N_elem h z38 (i : Int) (by omega) (by omega)
  have hc : ∀ j u, c[j]? = some u → W.cell? ⟨g, i * 12 + j, none⟩ = some u := hc0
  obtain ⟨A5, c5, rfl, l5, g5⟩ := k38_openF hK
  exact (Kd.N_seg h (i : Int) (by omega) (by omega) (seg := [.int .i64 r]) (j := 9) rfl hc (show 9 + 1 ≤ 12 by decide) (k38_mkF W _ (withRev (rd_T38 l i) r) l5 g5) (fun _ hk => hk)).1
theorem rdE_get {l : List EvT} {i : Nat} (h : i < l.length) : l[i]? = some (rd_T38 l i) := by
  rw [List.getElem?_eq_getElem h]
  simp only [rd_T38, Int.toNat_natCast, List.getD_eq_getElem?_getD, List.getElem?_eq_getElem h, Option.getD_some]
/-- A row of a table of one's own, or none. -/
theorem NE_form {W : World} {base c : Nat} {ok : Nat → Prop} {A : Option Addr} {l : List EvT} (h : Kd.N k38 38 W base ok (.slice A l.length c) l) (hp : 0 < l.length) : ∃ g, A = some ⟨g, 0, none⟩ ∧ base ≤ g := by
  obtain ⟨g, cap, he, hg, _⟩ := Kd.N_form h hp
  injection he with he _ _
  exact ⟨g, he, hg⟩

end Go.Proofs.Ytadhfedbgeenlaa.H
