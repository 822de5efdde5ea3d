/- Parts of the proof, merged: Ie, If, Ia, Ig. -/
import Derived.Test.YtadhfedbgeenlaaQ7
import Derived.Test.YtadhfedbgeenlaaQ3
/- The document's ends. -/
namespace Go.Proofs.Ytadhfedbgeenlaa.H
open Go.RowKit Go.Proofs.YtadhfedbgeenlaaW.PrintWords Go.Proofs.YtadhfedbgeenlaaW.PrintLast Go.Proofs.YtadhfedbgeenlaaW.PrintMore
set_option linter.unusedVariables false
set_option linter.unusedSimpArgs false

theorem plain_insR {l : List Rec} {r : Rec} (h : PlainT l) (hr : r.f5 = []) : PlainT (insR l r) := fun y hy => by
  rcases mem_insR hy with rfl | hy
  · rw [hr]; exact ⟨rfl, by decide⟩
  · exact h y hy
theorem plain_set {l : List Rec} {i : Nat} {x : Rec} (h : PlainT l) (hi : i < l.length) (hx : x.f5 = (rd_T54 l i).f5) : PlainT (l.set i x) := fun y hy => by
  rcases mem_set hy with rfl | hy
  · rw [hx]; exact h _ (rd_mem hi)
  · exact h y hy
theorem putT_plain {l : List Rec} {k : Option Nat} {o : OpT} (h : PlainT l) (hk : ∀ i, k = some i → i < l.length) : PlainT (putT l k o).1 := by
  cases k with
  | none =>
    unfold putT
    simp only
    split
    · exact h
    · exact plain_insR h rfl
  | some i =>
    unfold putT
    simp only
    split
    · exact h
    · exact plain_set h (hk i rfl) rfl
theorem doT_plain {l : List Rec} (o : OpT) (h : PlainT l) : PlainT (doT l o).1 := by
  have hk : ∀ i, posK l o.f1 = some i → i < l.length := fun i hi => by have := pos_lt hi; omega
  unfold doT
  split
  · unfold doK
    split
    · exact h
    · split
      · exact putT_plain h hk
      · split
        · split
          · exact putT_plain h hk
          · exact h
        · cases he : posK l o.f1 with
          | none => exact h
          | some i =>
            simp only
            unfold doS
            split
            · exact h
            · split
              · exact fun y hy => h y (List.mem_of_mem_eraseIdx hy)
              · split
                · exact h
                · exact plain_set h (hk i he) rfl
  · exact h
theorem doT_len {l : List Rec} (o : OpT) (h : l.length ≤ 1000) : (doT l o).1.length ≤ 1000 := by
  cases ht : tabOk l
  · unfold doT
    rw [if_neg (by rw [ht]; intro h; cases h.1)]
    exact h
  · have := (tabOk_iff.1 (doT_ok o ht)).2.2
    omega
theorem ways_len : ∀ (l : List EvT) (t : List Rec), (waysT t l).length ≤ 2 ^ l.countP (fun e => !e.f1)
  | [], t => Nat.le_refl _
  | e :: l, t => by
    rw [waysT, List.countP_cons]
    unfold behindT
    cases he : e.f1
    · rw [if_neg (by decide), List.flatMap_cons, List.flatMap_cons, List.flatMap_nil, List.append_nil, List.length_append, if_pos (by rfl), Nat.pow_succ]
      have h1 := ways_len l (doT t e.f0).1
      have h2 := ways_len l t
      omega
    · rw [if_pos rfl, show (if (!true) = true then 1 else 0) = 0 from rfl, Nat.add_zero]
      split
      · rw [List.flatMap_cons, List.flatMap_nil, List.append_nil]
        exact ways_len l _
      · exact Nat.zero_le _

/-- A row of tables of one's own; the tables are only read. -/
abbrev NL (W : World) (base : Nat) (v : Value) (ts : List (List Rec)) : Prop := Kd.N (Kd.slice 54 k54) 26 W base (fun _ => True) v ts
theorem heap_tab : Kd.Heap (Kd.slice 54 k54) := Kd.heap_slice _ heap_rec
theorem NL_one {W : World} {base c : Nat} {A : Option Addr} {x : List Rec} {okp ok : Nat → Prop} (hb : base ≤ W.heap.size) (hl : x.length ≤ c) (hf : Kd.F k54 W okp A x.length x) (hok : ∀ k, okp k → ok k) (hfr : ok W.heap.size) : Kd.N (Kd.slice 54 k54) 26 (W.alloc (.cells #[.slice A x.length c] 26)) base ok (.slice (some ⟨W.heap.size, 0, none⟩) 1 1) [x] := by
  refine Kd.N_made (W := W) (okp := okp) (rows := [[.slice A x.length c]]) ?_ (World.grownBy_alloc W _ none) ⟨W.heap.size, by simp [Value.ownBlock], Nat.le_refl _⟩ rfl (fun j y q hy hq => ?_) hok hfr
  · refine ⟨fun k hk => ?_, [.slice A x.length c], ?_, ?_⟩
    · simp [Value.ownBlock] at hk
      exact hk.symm
    · have h2 := World.ownsRow_lit (base := base) (e := 26) (size := 1) W #[.slice A x.length c] 1 hb (by simp only [maxLen]; omega) (by simp)
      simp at h2
      exact h2
    · refine ⟨by simp; rfl, fun j q hq => ?_⟩
      have hj := (List.getElem?_eq_some_iff.1 hq).1
      simp at hj
      subst hj
      obtain rfl : [.slice A x.length c] = q := by simpa using hq
      exact ⟨rfl, rfl, fun u hu => by rw [List.mem_singleton.1 hu]; rfl⟩
  · rcases j with _ | j
    · simp only [List.getElem?_cons_zero, Option.some.injEq] at hy hq
      rw [← hy, ← hq]
      exact Kd.FK_slice_mk hl hf
    · simp at hy

end Go.Proofs.Ytadhfedbgeenlaa.H

/- The document's ends: it calls itself. -/
namespace Go.Proofs.Ytadhfedbgeenlaa.H
open Go.RowKit Go.Proofs.YtadhfedbgeenlaaW.PrintWords Go.Proofs.YtadhfedbgeenlaaW.PrintLast Go.Proofs.YtadhfedbgeenlaaW.PrintMore
set_option linter.unusedVariables false
set_option linter.unusedSimpArgs false

set_option maxHeartbeats 4000000 in
set_option maxRecDepth 100000 in
theorem ends2_calls : ∀ (l : List EvT) (t : List Rec) (A : Option Addr) (c : Nat) (B : Option Addr) (cb : Nat) (w : World) (okf : Nat → Prop) (hr : Kd.F k54 w okf A t.length t) (hof : ∀ j, okf j → j < w.heap.size) (hv : Kd.C k38 w B l.length l) (hcb : l.length ≤ cb) (hct : t.length ≤ c) (hp : PlainT t) (hlen : t.length ≤ 1000) (hu : l.countP (fun e => !e.f1) ≤ 8),
    Calls Try.prog 27 #[.slice A t.length c, .slice B l.length cb] w fun e w' => ∃ v, e = .returned v ∧ Kd.N (Kd.slice 54 k54) 26 w' w.heap.size (fun j => okf j ∨ w.heap.size ≤ j) v (waysT t l) ∧ Below w.heap.size w w' := by
  intro l
  induction l with
  | nil =>
    intro t A c B cb w okf hr hof hv hcb hct hp hlen hu
    have HR := Lib.hid hr
    go_enter Try.func27, Try.ntmps27
    go_wp2
    go_ret
    exact ⟨_, rfl, NL_one (Nat.le_refl _) hct HR.out (fun _ h => Or.inl h) (Or.inr (Nat.le_refl _)), below_alloc (Below.refl _ _) _⟩
  | cons e l ih =>
    intro t A c B cb w okf hr hof hv hcb hct hp hlen hu
    have HR := Lib.hid hr
    have HV := Lib.hid hv
    have HIH := Lib.hid ih
    have HPT := Lib.hid hp
    have hll : (e :: l).length = l.length + 1 := rfl
    rw [hll] at hcb
    obtain ⟨ad, A11, c11, hA, h0, h1, h2, h3, h4, h5, h6, h7, h8, h9, h10, h11, hl11, hf11⟩ := at_T38 hv 0 (by decide) (by rw [hll]; omega)
    subst hA
    rw [show rd_T38 (e :: l) 0 = e from rfl] at h0 h1 h2 h3 h4 h5 h6 h7 h8 h9 h10 h11 hl11 hf11
    simp only [Int.toNat_zero, Nat.zero_mul] at h0 h1 h2 h3 h4 h5 h6 h7 h8 h9 h10 h11
    rw [show ad.add 0 = ad from rfl] at h0 h1 h2 h3 h4 h5 h6 h7 h8 h9 h10 h11
    have HCL := Lib.hid (show ∀ W : World, Below w.heap.size w W → (W.cell? ad = some (.int .i64 e.f0.f0) ∧ W.cell? ⟨ad.block, ad.off + 1, none⟩ = some (.string e.f0.f1) ∧ W.cell? ⟨ad.block, ad.off + 2, none⟩ = some (.string e.f0.f2) ∧ W.cell? ⟨ad.block, ad.off + 3, none⟩ = some (.int .i64 e.f0.f3) ∧ W.cell? ⟨ad.block, ad.off + 4, none⟩ = some (.string e.f0.f4) ∧ W.cell? ⟨ad.block, ad.off + 5, none⟩ = some (.int .i64 e.f0.f5) ∧ W.cell? ⟨ad.block, ad.off + 6, none⟩ = some (.string e.f0.f6) ∧ W.cell? ⟨ad.block, ad.off + 7, none⟩ = some (.bool e.f1) ∧ W.cell? ⟨ad.block, ad.off + 8, none⟩ = some (.int .i64 e.f2.f0) ∧ W.cell? ⟨ad.block, ad.off + 9, none⟩ = some (.int .i64 e.f2.f1) ∧ W.cell? ⟨ad.block, ad.off + 10, none⟩ = some (.string e.f2.f2) ∧ W.cell? ⟨ad.block, ad.off + 11, none⟩ = some (.slice A11 e.f2.f3.length c11)) from fun W hb => ⟨kept_cell hb h0, kept_cell hb h1, kept_cell hb h2, kept_cell hb h3, kept_cell hb h4, kept_cell hb h5, kept_cell hb h6, kept_cell hb h7, kept_cell hb h8, kept_cell hb h9, kept_cell hb h10, kept_cell hb h11⟩)
    have HF11 := Lib.hid hf11
    have HWL := Lib.hid (show waysT t (e :: l) = (behindT t e).flatMap (fun u => waysT u l) from rfl)
    have HU := Lib.hid hu
    have HOF := Lib.hid hof
    have hcb1 : 1 ≤ cb := by omega
    have hi1 : (1 : Int) ≤ (l.length : Int) + 1 := by omega
    have HD := Lib.hid (Kd.C_drop (m := 1) hv (by rw [hll]; omega) (by rw [hll]; exact hcb))
    have HCT := Lib.hid (And.intro hct hlen)
    clear hr hv ih hp hf11 hu hl11 hof hct
    generalize waysT t (e :: l) = ws at *
    have HDO := Lib.hid (do2_calls A c t e.f0 w (Kd.F_now HR.out) HPT.out hlen)
    have HUP := Lib.hid (And.intro (doT_plain e.f0 HPT.out) (doT_len e.f0 hlen))
    have HBE := Lib.hid (show behindT t e = if e.f1 = true then (if (doT t e.f0).2 = e.f2 then [(doT t e.f0).1] else []) else [(doT t e.f0).1, t] from rfl)
    generalize doT t e.f0 = r at *
    go_enter Try.func27, Try.ntmps27
    go_upto_region 3 with (fail)
    go_cut [5, 6] (fun v5 v6 W => ∃ (A1 : Option Addr) (c1 g : Nat), v5 = .slice A1 r.1.length c1 ∧ v6 = .pointer (some ⟨g, 0, none⟩) ∧ Aside0 (∃ (A2 : Option Addr) (c2 : Nat), Below w.heap.size w W ∧ W.heap[g]? = some (.cells #[.int .i64 r.2.f0, .int .i64 r.2.f1, .string r.2.f2, .slice A2 r.2.f3.length c2] 34 (0, 0)) ∧ Kd.F k54 W (fun j => w.heap.size ≤ j) A1 r.1.length r.1 ∧ Kd.string.C W A2 r.2.f3.length r.2.f3 ∧ r.1.length ≤ c1))
    case first =>
      go_wp2_with fail
      refine HDO.out.mono ?_
      rintro E W1 ⟨A1, c1, v1, rfl, hn1, hk1, hb1⟩
      obtain ⟨A2, c2, rfl⟩ := Kd.R_slice hk1
      have HK := Lib.hid (Kd.R_reads hk1)
      have HN := Lib.hid hn1
      have HB1 := Lib.hid hb1
      clear hn1 hk1 hb1
      go_wp2
      go_meet
      case rel =>
        obtain ⟨_, _, he2, _, hkc⟩ := HK.out
        injection he2 with he2 _ _
        have hnr := Kd.N_reads' HN.out
        rw [← he2] at hkc
        first | exact ⟨A1, c1, _, rfl, rfl, ⟨A2, c2, below_alloc HB1.out _, new_at rfl _, Kd.F_below (Kd.N_F HN.out) (below_alloc (Below.refl _ _) _), Kd.C_below hkc (below_alloc (Below.refl _ _) _), hnr.2.1⟩⟩ | ((repeat apply Exists.intro); exact ⟨⟨A1, c1, _, rfl, rfl, ⟨A2, c2, below_alloc HB1.out _, new_at rfl _, Kd.F_below (Kd.N_F HN.out) (below_alloc (Below.refl _ _) _), Kd.C_below hkc (below_alloc (Below.refl _ _) _), hnr.2.1⟩⟩, rfl⟩)
    clear HDO h0 h1 h2 h3 h4 h5 h6 h7 h8 h9 h10 h11
    obtain ⟨A1, c1, g, rfl, rfl, HA⟩ := hcut
    obtain ⟨A2, c2, hb, hg, hcu, hks, hlc⟩ := HA.out
    have HB := Lib.hid hb
    have HG := Lib.hid hg
    have HCU := Lib.hid hcu
    have HKS := Lib.hid hks
    have HLC := Lib.hid hlc
    clear hb hg hcu hks hlc HA
    obtain ⟨h0, h1, h2, h3, h4, h5, h6, h7, h8, h9, h10, h11⟩ := HCL.out _ HB.out
    cases hkn : e.f1
    · -- not known: both
      have HWS := Lib.hid (HWL.out.trans (by rw [HBE.out, hkn, if_neg (by decide), List.flatMap_cons, List.flatMap_cons, List.flatMap_nil, List.append_nil] : _ = waysT r.1 l ++ waysT t l))
      rw [hkn] at h7
      have HU2 := Lib.hid (show l.countP (fun e => !e.f1) ≤ 8 by have := HU.out; rw [List.countP_cons] at this; omega)
      clear hkn HWL HBE HU HKS HCL
      by_cases hc1 : cb = 1
      · subst hc1
        obtain rfl : l = [] := List.eq_nil_of_length_eq_zero (by omega)
        have HD1 := Lib.hid (show Kd.C k38 w (some ad) ([] : List EvT).length ([] : List EvT) by have h := HD.out; rw [if_pos rfl] at h; exact h)
        have HC1 := Lib.hid (HIH.out r.1 A1 c1 (some ad) 0 wc (fun j => w.heap.size ≤ j ∧ j < wc.heap.size) (Kd.F_bound HCU.out) (fun j h => h.2) (Kd.C_below HD1.out HB.out) (by omega) HLC.out HUP.out.1 HUP.out.2 HU2.out)
        have HL1 := Lib.hid (Nat.le_trans (ways_len ([] : List EvT) r.1) (Nat.pow_le_pow_right (by decide) HU2.out))
        have HL2 := Lib.hid (Nat.le_trans (ways_len ([] : List EvT) t) (Nat.pow_le_pow_right (by decide) HU2.out))
        have HC2 := Lib.hid (fun (W1 : World) (hb : Below w.heap.size w W1) => HIH.out t A c (some ad) 0 W1 okf (Kd.F_below HR.out hb) (fun j h => Nat.lt_of_lt_of_le (HOF.out j h) hb.size) (Kd.C_below HD1.out hb) (by omega) HCT.out.1 HPT.out HCT.out.2 HU2.out)
        generalize waysT r.1 ([] : List EvT) = w1s at *
        generalize waysT t ([] : List EvT) = w2s at *
        go_upto_region 8 with (fail)
        clear h0 h1 h2 h3 h4 h5 h6 h7 h8 h9 h10 h11
        go_wp2_with fail
        refine HC1.out.mono ?_
        rintro E W1 ⟨v1, rfl, hn1, hb1⟩
        obtain ⟨A3, c3, rfl⟩ := Kd.N_slice hn1
        have HN1 := Lib.hid hn1
        have HB1 := Lib.hid (below_then HB.out HB.out.size hb1)
        clear hn1 hb1 HC1 HCU HG
        go_wp2_with fail
        refine (HC2.out W1 HB1.out).mono ?_
        rintro E W2 ⟨v2, rfl, hn2, hb2⟩
        obtain ⟨A4, c4, rfl⟩ := Kd.N_slice hn2
        have HN2 := Lib.hid hn2
        have HN3 := Lib.hid (Kd.N_mono (Kd.N_lower (Kd.N_below HN1.out hb2) HB.out.size) (fun j hj => by rcases hj with hj | hj; exact Or.inr hj.1; exact Or.inr (Nat.le_trans HB.out.size hj)) : Kd.N (Kd.slice 54 k54) 26 W2 w.heap.size (fun j => okf j ∨ w.heap.size ≤ j) _ w1s)
        have HB2 := Lib.hid (below_then HB1.out HB1.out.size hb2)
        have HNB := Lib.hid (And.intro (Kd.N_base HN1.out) (Kd.N_lt HN1.out))
        clear hn2 hb2 HC2
        go_wp2_with (at_builtin; refine Kd.N_append_rows (Kd.slice 54 k54) (w0 := w) w.heap.size rfl (.tmp 41) (.tmp 45) 40 26 (.slice none 0 0) 24 rfl Try.underlying40 info26 rfl (by decide) (by omega) (.slice A3 w1s.length c3) w1s w2s A4 w2s.length c4 (fun j => okf j ∨ w.heap.size ≤ j) (fun j => okf j ∨ W1.heap.size ≤ j) rfl rfl ?aN ?aF ?aK ?aH ?aB ?aS ?aL ?_; (case aN => exact HN3.out); (case aF => exact Kd.N_F HN2.out); (case aK => exact (fun j hj => ⟨by rcases hj with hj | hj; exact Or.inl hj; exact Or.inr (Nat.le_trans HB1.out.size hj), fun he => by have h1 := HNB.out.1 j he.symm; have h2 := HNB.out.2 j he.symm; have h3 := HB.out.size; rcases hj with hj | hj; have := HOF.out j hj; omega; omega⟩)); (case aH => exact (fun k hk => Or.inr (Nat.le_trans HB2.out.size hk))); (case aB => exact HB2.out); (case aS => exact HB2.out.size); (case aL => have := HL1.out; have := HL2.out; omega); intro v3 w3 ho3 hb3 hg3 hat3; have HO3 := Lib.hid (And.intro ho3 hb3); clear ho3 hb3 hg3 hat3)
        go_ret
        exact ⟨_, rfl, by rw [HWS.out]; exact HO3.out.1, HO3.out.2⟩
      have HD1 := Lib.hid (show Kd.C k38 w (some (ad.add 12)) l.length l by have h := HD.out; rw [if_neg hc1] at h; exact h)
      have HC1 := Lib.hid (HIH.out r.1 A1 c1 (some (ad.add 12)) (cb - 1) wc (fun j => w.heap.size ≤ j ∧ j < wc.heap.size) (Kd.F_bound HCU.out) (fun j h => h.2) (Kd.C_below HD1.out HB.out) (by omega) HLC.out HUP.out.1 HUP.out.2 HU2.out)
      have HL1 := Lib.hid (Nat.le_trans (ways_len l r.1) (Nat.pow_le_pow_right (by decide) HU2.out))
      have HL2 := Lib.hid (Nat.le_trans (ways_len l t) (Nat.pow_le_pow_right (by decide) HU2.out))
      have HC2 := Lib.hid (fun (W1 : World) (hb : Below w.heap.size w W1) => HIH.out t A c (some (ad.add 12)) (cb - 1) W1 okf (Kd.F_below HR.out hb) (fun j h => Nat.lt_of_lt_of_le (HOF.out j h) hb.size) (Kd.C_below HD1.out hb) (by omega) HCT.out.1 HPT.out HCT.out.2 HU2.out)
      generalize waysT r.1 l = w1s at *
      generalize waysT t l = w2s at *
      go_upto_region 8 with (fail)
      clear h0 h1 h2 h3 h4 h5 h6 h7 h8 h9 h10 h11
      go_wp2_with fail
      refine HC1.out.mono ?_
      rintro E W1 ⟨v1, rfl, hn1, hb1⟩
      obtain ⟨A3, c3, rfl⟩ := Kd.N_slice hn1
      have HN1 := Lib.hid hn1
      have HB1 := Lib.hid (below_then HB.out HB.out.size hb1)
      clear hn1 hb1 HC1 HCU HG
      go_wp2_with fail
      refine (HC2.out W1 HB1.out).mono ?_
      rintro E W2 ⟨v2, rfl, hn2, hb2⟩
      obtain ⟨A4, c4, rfl⟩ := Kd.N_slice hn2
      have HN2 := Lib.hid hn2
      have HN3 := Lib.hid (Kd.N_mono (Kd.N_lower (Kd.N_below HN1.out hb2) HB.out.size) (fun j hj => by rcases hj with hj | hj; exact Or.inr hj.1; exact Or.inr (Nat.le_trans HB.out.size hj)) : Kd.N (Kd.slice 54 k54) 26 W2 w.heap.size (fun j => okf j ∨ w.heap.size ≤ j) _ w1s)
      have HB2 := Lib.hid (below_then HB1.out HB1.out.size hb2)
      have HNB := Lib.hid (And.intro (Kd.N_base HN1.out) (Kd.N_lt HN1.out))
      clear hn2 hb2 HC2
      go_wp2_with (at_builtin; refine Kd.N_append_rows (Kd.slice 54 k54) (w0 := w) w.heap.size rfl (.tmp 41) (.tmp 45) 40 26 (.slice none 0 0) 24 rfl Try.underlying40 info26 rfl (by decide) (by omega) (.slice A3 w1s.length c3) w1s w2s A4 w2s.length c4 (fun j => okf j ∨ w.heap.size ≤ j) (fun j => okf j ∨ W1.heap.size ≤ j) rfl rfl ?aN ?aF ?aK ?aH ?aB ?aS ?aL ?_; (case aN => exact HN3.out); (case aF => exact Kd.N_F HN2.out); (case aK => exact (fun j hj => ⟨by rcases hj with hj | hj; exact Or.inl hj; exact Or.inr (Nat.le_trans HB1.out.size hj), fun he => by have h1 := HNB.out.1 j he.symm; have h2 := HNB.out.2 j he.symm; have h3 := HB.out.size; rcases hj with hj | hj; have := HOF.out j hj; omega; omega⟩)); (case aH => exact (fun k hk => Or.inr (Nat.le_trans HB2.out.size hk))); (case aB => exact HB2.out); (case aS => exact HB2.out.size); (case aL => have := HL1.out; have := HL2.out; omega); intro v3 w3 ho3 hb3 hg3 hat3; have HO3 := Lib.hid (And.intro ho3 hb3); clear ho3 hb3 hg3 hat3)
      go_ret
      exact ⟨_, rfl, by rw [HWS.out]; exact HO3.out.1, HO3.out.2⟩
    · have HKP := Lib.hid (show ∀ W W2 : World, (W.cell? ⟨g, 0, none⟩ = some (.int .i64 r.2.f0) ∧ W.cell? ⟨g, 1, none⟩ = some (.int .i64 r.2.f1) ∧ W.cell? ⟨g, 2, none⟩ = some (.string r.2.f2) ∧ W.cell? ⟨g, 3, none⟩ = some (.slice A2 r.2.f3.length c2) ∧ W.cell? ⟨ad.block, ad.off + 8, none⟩ = some (.int .i64 e.f2.f0) ∧ W.cell? ⟨ad.block, ad.off + 9, none⟩ = some (.int .i64 e.f2.f1) ∧ W.cell? ⟨ad.block, ad.off + 10, none⟩ = some (.string e.f2.f2) ∧ W.cell? ⟨ad.block, ad.off + 11, none⟩ = some (.slice A11 e.f2.f3.length c11) ∧ Aside0 (Below w.heap.size w W ∧ Below wc.heap.size wc W)) → Below W.heap.size W W2 → (W2.cell? ⟨g, 0, none⟩ = some (.int .i64 r.2.f0) ∧ W2.cell? ⟨g, 1, none⟩ = some (.int .i64 r.2.f1) ∧ W2.cell? ⟨g, 2, none⟩ = some (.string r.2.f2) ∧ W2.cell? ⟨g, 3, none⟩ = some (.slice A2 r.2.f3.length c2) ∧ W2.cell? ⟨ad.block, ad.off + 8, none⟩ = some (.int .i64 e.f2.f0) ∧ W2.cell? ⟨ad.block, ad.off + 9, none⟩ = some (.int .i64 e.f2.f1) ∧ W2.cell? ⟨ad.block, ad.off + 10, none⟩ = some (.string e.f2.f2) ∧ W2.cell? ⟨ad.block, ad.off + 11, none⟩ = some (.slice A11 e.f2.f3.length c11) ∧ Aside0 (Below w.heap.size w W2 ∧ Below wc.heap.size wc W2)) from fun W W2 h hb => ⟨kept_cell hb h.1, kept_cell hb h.2.1, kept_cell hb h.2.2.1, kept_cell hb h.2.2.2.1, kept_cell hb h.2.2.2.2.1, kept_cell hb h.2.2.2.2.2.1, kept_cell hb h.2.2.2.2.2.2.1, kept_cell hb h.2.2.2.2.2.2.2.1, ⟨⟨below_then h.2.2.2.2.2.2.2.2.out.1 h.2.2.2.2.2.2.2.2.out.1.size hb, below_then h.2.2.2.2.2.2.2.2.out.2 h.2.2.2.2.2.2.2.2.out.2.size hb⟩⟩⟩)
      obtain ⟨g0, g1, g2, g3, _, gl⟩ := four_cells HG.out
      have hs0 : wc.cell? ⟨g, 0, none⟩ = some (.int .i64 r.2.f0) ∧ wc.cell? ⟨g, 1, none⟩ = some (.int .i64 r.2.f1) ∧ wc.cell? ⟨g, 2, none⟩ = some (.string r.2.f2) ∧ wc.cell? ⟨g, 3, none⟩ = some (.slice A2 r.2.f3.length c2) ∧ wc.cell? ⟨ad.block, ad.off + 8, none⟩ = some (.int .i64 e.f2.f0) ∧ wc.cell? ⟨ad.block, ad.off + 9, none⟩ = some (.int .i64 e.f2.f1) ∧ wc.cell? ⟨ad.block, ad.off + 10, none⟩ = some (.string e.f2.f2) ∧ wc.cell? ⟨ad.block, ad.off + 11, none⟩ = some (.slice A11 e.f2.f3.length c11) ∧ Aside0 (Below w.heap.size w wc ∧ Below wc.heap.size wc wc) := ⟨g0, g1, g2, g3, h8, h9, h10, h11, ⟨HB.out, Below.refl _ _⟩⟩
      have HSR := Lib.hid (fun (W : World) (hb : Below w.heap.size w W) (hc : Below wc.heap.size wc W) => reply2_calls r.2 e.f2 A2 A11 c2 c11 W (Kd.C_below HKS.out hc) (Kd.C_below HF11.out hb))
      rw [hkn] at h7
      by_cases dd : r.2 = e.f2
      rotate_left
      · have HWS := Lib.hid (HWL.out.trans (by rw [HBE.out, hkn, if_pos rfl, if_neg dd, List.flatMap_nil] : _ = []))
        rw [decide_eq_false dd] at HSR
        clear dd hkn HWL HBE HU HIH
        go_wp2_with fail
        go_region_held3 (fun W => W.cell? ⟨g, 0, none⟩ = some (.int .i64 r.2.f0) ∧ W.cell? ⟨g, 1, none⟩ = some (.int .i64 r.2.f1) ∧ W.cell? ⟨g, 2, none⟩ = some (.string r.2.f2) ∧ W.cell? ⟨g, 3, none⟩ = some (.slice A2 r.2.f3.length c2) ∧ W.cell? ⟨ad.block, ad.off + 8, none⟩ = some (.int .i64 e.f2.f0) ∧ W.cell? ⟨ad.block, ad.off + 9, none⟩ = some (.int .i64 e.f2.f1) ∧ W.cell? ⟨ad.block, ad.off + 10, none⟩ = some (.string e.f2.f2) ∧ W.cell? ⟨ad.block, ad.off + 11, none⟩ = some (.slice A11 e.f2.f3.length c11) ∧ Aside0 (Below w.heap.size w W ∧ Below wc.heap.size wc W))
          (first | assumption | exact HKP.out _ _ (by assumption) (below_drew (Below.refl _ _)) | go_keep)
          (first | (go_at_call 53; (with_reducible refine (HSR.out _ ?hbx ?hby).mono ?_); (case hbx => exact (by assumption : _ ∧ _ ∧ _ ∧ _ ∧ _ ∧ _ ∧ _ ∧ _ ∧ Aside0 (Below w.heap.size w _ ∧ Below wc.heap.size wc _)).2.2.2.2.2.2.2.2.out.1); (case hby => exact (by assumption : _ ∧ _ ∧ _ ∧ _ ∧ _ ∧ _ ∧ _ ∧ _ ∧ Aside0 (Below w.heap.size w _ ∧ Below wc.heap.size wc _)).2.2.2.2.2.2.2.2.out.2); rintro E w2 ⟨rfl, hb2⟩; have hs2 := HKP.out _ _ (by assumption) hb2))
        all_goals
          go_wp2
          go_ret
          exact ⟨_, rfl, by rw [HWS.out]; exact Kd.N_nil _ _ _ _ _, (by assumption : _ ∧ _ ∧ _ ∧ _ ∧ _ ∧ _ ∧ _ ∧ _ ∧ Aside0 (Below w.heap.size w _ ∧ Below wc.heap.size wc _)).2.2.2.2.2.2.2.2.out.1⟩
      have HWS := Lib.hid (HWL.out.trans (by rw [HBE.out, hkn, if_pos rfl, if_pos dd, List.flatMap_cons, List.flatMap_nil, List.append_nil] : _ = waysT r.1 l))
      have HU2 := Lib.hid (show l.countP (fun e => !e.f1) ≤ 8 by have := HU.out; rw [List.countP_cons] at this; omega)
      rw [decide_eq_true dd] at HSR
      clear dd hkn HWL HBE HU
      by_cases hc1 : cb = 1
      · subst hc1
        obtain rfl : l = [] := List.eq_nil_of_length_eq_zero (by omega)
        have HD1 := Lib.hid (show Kd.C k38 w (some ad) ([] : List EvT).length ([] : List EvT) by have h := HD.out; rw [if_pos rfl] at h; exact h)
        have HC1 := Lib.hid (fun (W : World) (hb : Below w.heap.size w W) (hc : Below wc.heap.size wc W) => HIH.out r.1 A1 c1 (some ad) 0 W (fun j => w.heap.size ≤ j ∧ j < wc.heap.size) (Kd.F_below (Kd.F_bound HCU.out) hc) (fun j h => Nat.lt_of_lt_of_le h.2 hc.size) (Kd.C_below HD1.out hb) (by omega) HLC.out HUP.out.1 HUP.out.2 HU2.out)
        generalize waysT r.1 ([] : List EvT) = w1s at *
        go_wp2_with fail
        go_region_held3 (fun W => W.cell? ⟨g, 0, none⟩ = some (.int .i64 r.2.f0) ∧ W.cell? ⟨g, 1, none⟩ = some (.int .i64 r.2.f1) ∧ W.cell? ⟨g, 2, none⟩ = some (.string r.2.f2) ∧ W.cell? ⟨g, 3, none⟩ = some (.slice A2 r.2.f3.length c2) ∧ W.cell? ⟨ad.block, ad.off + 8, none⟩ = some (.int .i64 e.f2.f0) ∧ W.cell? ⟨ad.block, ad.off + 9, none⟩ = some (.int .i64 e.f2.f1) ∧ W.cell? ⟨ad.block, ad.off + 10, none⟩ = some (.string e.f2.f2) ∧ W.cell? ⟨ad.block, ad.off + 11, none⟩ = some (.slice A11 e.f2.f3.length c11) ∧ Aside0 (Below w.heap.size w W ∧ Below wc.heap.size wc W))
          (first | assumption | exact HKP.out _ _ (by assumption) (below_drew (Below.refl _ _)) | go_keep)
          (first | (go_at_call 53; (with_reducible refine (HSR.out _ ?hbx ?hby).mono ?_); (case hbx => exact (by assumption : _ ∧ _ ∧ _ ∧ _ ∧ _ ∧ _ ∧ _ ∧ _ ∧ Aside0 (Below w.heap.size w _ ∧ Below wc.heap.size wc _)).2.2.2.2.2.2.2.2.out.1); (case hby => exact (by assumption : _ ∧ _ ∧ _ ∧ _ ∧ _ ∧ _ ∧ _ ∧ _ ∧ Aside0 (Below w.heap.size w _ ∧ Below wc.heap.size wc _)).2.2.2.2.2.2.2.2.out.2); rintro E w2 ⟨rfl, hb2⟩; have hs2 := HKP.out _ _ (by assumption) hb2))
        all_goals
          go_wp2_with fail
          refine (HC1.out _ (by assumption : _ ∧ _ ∧ _ ∧ _ ∧ _ ∧ _ ∧ _ ∧ _ ∧ Aside0 (Below w.heap.size w _ ∧ Below wc.heap.size wc _)).2.2.2.2.2.2.2.2.out.1 (by assumption : _ ∧ _ ∧ _ ∧ _ ∧ _ ∧ _ ∧ _ ∧ _ ∧ Aside0 (Below w.heap.size w _ ∧ Below wc.heap.size wc _)).2.2.2.2.2.2.2.2.out.2).mono ?_
          rintro E W1 ⟨v1, rfl, hn1, hb1⟩
          obtain ⟨A3, c3, rfl⟩ := Kd.N_slice hn1
          have HBX := Lib.hid (by assumption : _ ∧ _ ∧ _ ∧ _ ∧ _ ∧ _ ∧ _ ∧ _ ∧ Aside0 (Below w.heap.size w _ ∧ Below wc.heap.size wc _)).2.2.2.2.2.2.2.2.out.1
          have HO3 := Lib.hid (And.intro hn1 (below_then HBX.out HBX.out.size hb1))
          clear hn1 hb1 HC1
          go_wp2
          go_ret
          exact ⟨_, rfl, by rw [HWS.out]; exact Kd.N_mono (Kd.N_lower HO3.out.1 HBX.out.size) (fun j hj => by rcases hj with hj | hj; exact Or.inr hj.1; exact Or.inr (Nat.le_trans HBX.out.size hj)), HO3.out.2⟩
      have HD1 := Lib.hid (show Kd.C k38 w (some (ad.add 12)) l.length l by have h := HD.out; rw [if_neg hc1] at h; exact h)
      have HC1 := Lib.hid (fun (W : World) (hb : Below w.heap.size w W) (hc : Below wc.heap.size wc W) => HIH.out r.1 A1 c1 (some (ad.add 12)) (cb - 1) W (fun j => w.heap.size ≤ j ∧ j < wc.heap.size) (Kd.F_below (Kd.F_bound HCU.out) hc) (fun j h => Nat.lt_of_lt_of_le h.2 hc.size) (Kd.C_below HD1.out hb) (by omega) HLC.out HUP.out.1 HUP.out.2 HU2.out)
      generalize waysT r.1 l = w1s at *
      go_wp2_with fail
      go_region_held3 (fun W => W.cell? ⟨g, 0, none⟩ = some (.int .i64 r.2.f0) ∧ W.cell? ⟨g, 1, none⟩ = some (.int .i64 r.2.f1) ∧ W.cell? ⟨g, 2, none⟩ = some (.string r.2.f2) ∧ W.cell? ⟨g, 3, none⟩ = some (.slice A2 r.2.f3.length c2) ∧ W.cell? ⟨ad.block, ad.off + 8, none⟩ = some (.int .i64 e.f2.f0) ∧ W.cell? ⟨ad.block, ad.off + 9, none⟩ = some (.int .i64 e.f2.f1) ∧ W.cell? ⟨ad.block, ad.off + 10, none⟩ = some (.string e.f2.f2) ∧ W.cell? ⟨ad.block, ad.off + 11, none⟩ = some (.slice A11 e.f2.f3.length c11) ∧ Aside0 (Below w.heap.size w W ∧ Below wc.heap.size wc W))
        (first | assumption | exact HKP.out _ _ (by assumption) (below_drew (Below.refl _ _)) | go_keep)
        (first | (go_at_call 53; (with_reducible refine (HSR.out _ ?hbx ?hby).mono ?_); (case hbx => exact (by assumption : _ ∧ _ ∧ _ ∧ _ ∧ _ ∧ _ ∧ _ ∧ _ ∧ Aside0 (Below w.heap.size w _ ∧ Below wc.heap.size wc _)).2.2.2.2.2.2.2.2.out.1); (case hby => exact (by assumption : _ ∧ _ ∧ _ ∧ _ ∧ _ ∧ _ ∧ _ ∧ _ ∧ Aside0 (Below w.heap.size w _ ∧ Below wc.heap.size wc _)).2.2.2.2.2.2.2.2.out.2); rintro E w2 ⟨rfl, hb2⟩; have hs2 := HKP.out _ _ (by assumption) hb2))
      all_goals
        go_wp2_with fail
        refine (HC1.out _ (by assumption : _ ∧ _ ∧ _ ∧ _ ∧ _ ∧ _ ∧ _ ∧ _ ∧ Aside0 (Below w.heap.size w _ ∧ Below wc.heap.size wc _)).2.2.2.2.2.2.2.2.out.1 (by assumption : _ ∧ _ ∧ _ ∧ _ ∧ _ ∧ _ ∧ _ ∧ _ ∧ Aside0 (Below w.heap.size w _ ∧ Below wc.heap.size wc _)).2.2.2.2.2.2.2.2.out.2).mono ?_
        rintro E W1 ⟨v1, rfl, hn1, hb1⟩
        obtain ⟨A3, c3, rfl⟩ := Kd.N_slice hn1
        have HBX := Lib.hid (by assumption : _ ∧ _ ∧ _ ∧ _ ∧ _ ∧ _ ∧ _ ∧ _ ∧ Aside0 (Below w.heap.size w _ ∧ Below wc.heap.size wc _)).2.2.2.2.2.2.2.2.out.1
        have HO3 := Lib.hid (And.intro hn1 (below_then HBX.out HBX.out.size hb1))
        clear hn1 hb1 HC1
        go_wp2
        go_ret
        exact ⟨_, rfl, by rw [HWS.out]; exact Kd.N_mono (Kd.N_lower HO3.out.1 HBX.out.size) (fun j hj => by rcases hj with hj | hj; exact Or.inr hj.1; exact Or.inr (Nat.le_trans HBX.out.size hj)), HO3.out.2⟩

end Go.Proofs.Ytadhfedbgeenlaa.H

/- Histories that may be; a raw number's pick. -/
namespace Go.Proofs.Ytadhfedbgeenlaa.H
open Go.RowKit Go.Proofs.YtadhfedbgeenlaaW.PrintWords Go.Proofs.YtadhfedbgeenlaaW.PrintLast Go.Proofs.YtadhfedbgeenlaaW.PrintMore
set_option linter.unusedVariables false
set_option linter.unusedSimpArgs false

def evOk (l : List S38) : Bool := decide (l.length ≤ 100) && decide (l.countP (fun e => !e.f1) ≤ 8)
def InI (n : Int) : Prop := -9223372036854775808 ≤ n ∧ n ≤ 9223372036854775807

set_option maxHeartbeats 2000000 in
set_option maxRecDepth 100000 in
theorem evRight_calls (A : Option Addr) (c : Nat) (l : List S38) (w : World) (hr : Kd.C k38 w A l.length l) :
    Calls Try.prog 18 #[.slice A l.length c] w fun e w' => e = .returned (.bool (evOk l)) ∧ Below w.heap.size w w' := by
  have hm : l.length ≤ 9223372036854775807 := hr.2.1
  have HRR := Lib.hid hr; clear hr
  have HD := Lib.hid (show ∀ n, n = l.countP (fun e => !e.f1) → evOk l = (decide (l.length ≤ 100) && decide (n ≤ 8)) from fun n h => by rw [h]; rfl)
  generalize evOk l = r at *
  go_enter Try.func18, Try.ntmps18
  go_wp2
  go_loopw [3, 8] (fun v3 vi W => ∃ (k n : Nat), k ≤ l.length ∧ n ≤ k ∧ vi = .int .i64 k ∧ v3 = .int .i64 n ∧ Aside0 (n = (l.take k).countP (fun e => !e.f1)) ∧ Aside0 (Below w.heap.size w W)) (fun _ vi _ => l.length - (intOf vi).toNat)
  case atStart => exact ⟨0, 0, Nat.zero_le _, Nat.zero_le _, rfl, rfl, ⟨rfl⟩, ⟨Below.refl _ _⟩⟩
  case round =>
    obtain ⟨k, n, hk, hn, rfl, rfl, HE, HB⟩ := hrel
    by_cases hlt : k < l.length
    rotate_left
    · obtain rfl : k = l.length := by omega
      have HQ := Lib.hid (HD.out n (by have h := HE.out; rw [List.take_length] at h; exact h))
      clear hlt HE HD
      by_cases h1 : l.length ≤ 100
      rotate_left
      · have e1 : decide ((l.length : Int) ≤ 100) = false := decide_eq_false (by omega)
        have HS := Lib.hid (HQ.out.trans (by rw [decide_eq_false h1]; rfl : _ = false)); clear h1 HQ
        go_wp2
        go_ret
        exact ⟨ret_bool HS.out.symm, HB.out⟩
      have e1 : decide ((l.length : Int) ≤ 100) = true := decide_eq_true (by omega)
      by_cases h2 : n ≤ 8
      · have e2 : decide ((n : Int) ≤ 8) = true := decide_eq_true (by omega)
        have HS := Lib.hid (HQ.out.trans (by rw [decide_eq_true h1, decide_eq_true h2]; rfl : _ = true)); clear h1 h2 HQ
        go_wp2
        go_ret
        exact ⟨ret_bool HS.out.symm, HB.out⟩
      have e2 : decide ((n : Int) ≤ 8) = false := decide_eq_false (by omega)
      have HS := Lib.hid (HQ.out.trans (by rw [decide_eq_false h2, Bool.and_false] : _ = false)); clear h1 h2 HQ
      go_wp2
      go_ret
      exact ⟨ret_bool HS.out.symm, HB.out⟩
    obtain ⟨ad, A11, c11, hA, h0, h1, h2, h3, h4, h5, h6, h7, h8, h9, h10, h11, hl, hf⟩ := at_T38 HRR.out k (by omega) (by omega)
    subst hA
    rw [Int.toNat_natCast] at h0 h1 h2 h3 h4 h5 h6 h7 h8 h9 h10 h11
    replace h0 := kept_cell HB.out h0
    replace h1 := kept_cell HB.out h1
    replace h2 := kept_cell HB.out h2
    replace h3 := kept_cell HB.out h3
    replace h4 := kept_cell HB.out h4
    replace h5 := kept_cell HB.out h5
    replace h6 := kept_cell HB.out h6
    replace h7 := kept_cell HB.out h7
    replace h8 := kept_cell HB.out h8
    replace h9 := kept_cell HB.out h9
    replace h10 := kept_cell HB.out h10
    replace h11 := kept_cell HB.out h11
    have HCN := Lib.hid (show (l.take (k + 1)).countP (fun e => !e.f1) = n + (if (!(rd_T38 l k).f1) = true then 1 else 0) by rw [HE.out]; exact countP_take_step z38 hlt)
    generalize rd_T38 l k = x at *
    clear hl hf HE
    have b1 : (0 : Int) ≤ k := by omega
    have b2 : (k : Int) < l.length := by omega
    cases hx : x.f1
    · rw [hx] at h7 HCN
      have HN := Lib.hid (show n + 1 = (l.take (k + 1)).countP (fun e => !e.f1) by rw [HCN.out]; rfl)
      clear HCN hx
      go_wp2
      go_roundw
      case rel => exact ⟨k + 1, n + 1, by omega, by omega, by go_num, by go_num, ⟨HN.out⟩, ⟨below_alloc HB.out _⟩⟩
      case measure => simp [intOf]; omega
    · rw [hx] at h7 HCN
      have HN := Lib.hid (show n = (l.take (k + 1)).countP (fun e => !e.f1) by rw [HCN.out]; rfl)
      clear HCN hx
      go_wp2
      go_roundw
      case rel => exact ⟨k + 1, n, by omega, by omega, by go_num, rfl, ⟨HN.out⟩, ⟨below_alloc HB.out _⟩⟩
      case measure => simp [intOf]; omega

set_option maxHeartbeats 2000000 in
set_option maxRecDepth 100000 in
theorem ev2Right_calls (A : Option Addr) (c : Nat) (l : List S38) (w : World) (hr : Kd.C k38 w A l.length l) :
    Calls Try.prog 19 #[.slice A l.length c] w fun e w' => e = .returned (.bool (evOk l)) ∧ Below w.heap.size w w' := by
  have hm : l.length ≤ 9223372036854775807 := hr.2.1
  have HRR := Lib.hid hr; clear hr
  have HD := Lib.hid (show ∀ n, n = l.countP (fun e => !e.f1) → evOk l = (decide (l.length ≤ 100) && decide (n ≤ 8)) from fun n h => by rw [h]; rfl)
  generalize evOk l = r at *
  go_enter Try.func19, Try.ntmps19
  go_wp2
  go_loopw [3, 4] (fun v3 vi W => ∃ (k n : Nat), k ≤ l.length ∧ n ≤ k ∧ vi = .int .i64 k ∧ v3 = .int .i64 n ∧ Aside0 (n = (l.take k).countP (fun e => !e.f1)) ∧ Aside0 (Below w.heap.size w W)) (fun _ vi _ => l.length - (intOf vi).toNat)
  case atStart => exact ⟨0, 0, Nat.zero_le _, Nat.zero_le _, rfl, rfl, ⟨rfl⟩, ⟨Below.refl _ _⟩⟩
  case round =>
    obtain ⟨k, n, hk, hn, rfl, rfl, HE, HB⟩ := hrel
    by_cases hlt : k < l.length
    rotate_left
    · obtain rfl : k = l.length := by omega
      have HQ := Lib.hid (HD.out n (by have h := HE.out; rw [List.take_length] at h; exact h))
      clear hlt HE HD
      by_cases h1 : l.length ≤ 100
      rotate_left
      · have e1 : decide ((l.length : Int) ≤ 100) = false := decide_eq_false (by omega)
        have HS := Lib.hid (HQ.out.trans (by rw [decide_eq_false h1]; rfl : _ = false)); clear h1 HQ
        go_wp2
        go_ret
        exact ⟨ret_bool HS.out.symm, HB.out⟩
      have e1 : decide ((l.length : Int) ≤ 100) = true := decide_eq_true (by omega)
      by_cases h2 : n ≤ 8
      · have e2 : decide ((n : Int) ≤ 8) = true := decide_eq_true (by omega)
        have HS := Lib.hid (HQ.out.trans (by rw [decide_eq_true h1, decide_eq_true h2]; rfl : _ = true)); clear h1 h2 HQ
        go_wp2
        go_ret
        exact ⟨ret_bool HS.out.symm, HB.out⟩
      have e2 : decide ((n : Int) ≤ 8) = false := decide_eq_false (by omega)
      have HS := Lib.hid (HQ.out.trans (by rw [decide_eq_false h2, Bool.and_false] : _ = false)); clear h1 h2 HQ
      go_wp2
      go_ret
      exact ⟨ret_bool HS.out.symm, HB.out⟩
    obtain ⟨ad, A11, c11, hA, h0, h1, h2, h3, h4, h5, h6, h7, h8, h9, h10, h11, hl, hf⟩ := at_T38 HRR.out k (by omega) (by omega)
    subst hA
    rw [Int.toNat_natCast] at h0 h1 h2 h3 h4 h5 h6 h7 h8 h9 h10 h11
    replace h0 := kept_cell HB.out h0
    replace h1 := kept_cell HB.out h1
    replace h2 := kept_cell HB.out h2
    replace h3 := kept_cell HB.out h3
    replace h4 := kept_cell HB.out h4
    replace h5 := kept_cell HB.out h5
    replace h6 := kept_cell HB.out h6
    replace h7 := kept_cell HB.out h7
    replace h8 := kept_cell HB.out h8
    replace h9 := kept_cell HB.out h9
    replace h10 := kept_cell HB.out h10
    replace h11 := kept_cell HB.out h11
    have HCN := Lib.hid (show (l.take (k + 1)).countP (fun e => !e.f1) = n + (if (!(rd_T38 l k).f1) = true then 1 else 0) by rw [HE.out]; exact countP_take_step z38 hlt)
    generalize rd_T38 l k = x at *
    clear hl hf HE
    have b1 : (0 : Int) ≤ k := by omega
    have b2 : (k : Int) < l.length := by omega
    cases hx : x.f1
    · rw [hx] at h7 HCN
      have HN := Lib.hid (show n + 1 = (l.take (k + 1)).countP (fun e => !e.f1) by rw [HCN.out]; rfl)
      clear HCN hx
      go_wp2
      go_roundw
      case rel => exact ⟨k + 1, n + 1, by omega, by omega, by go_num, by go_num, ⟨HN.out⟩, ⟨HB.out⟩⟩
      case measure => simp [intOf]; omega
    · rw [hx] at h7 HCN
      have HN := Lib.hid (show n = (l.take (k + 1)).countP (fun e => !e.f1) by rw [HCN.out]; rfl)
      clear HCN hx
      go_wp2
      go_roundw
      case rel => exact ⟨k + 1, n, by omega, by omega, by go_num, rfl, ⟨HN.out⟩, ⟨HB.out⟩⟩
      case measure => simp [intOf]; omega

end Go.Proofs.Ytadhfedbgeenlaa.H

/- The document's Ends. -/
namespace Go.Proofs.Ytadhfedbgeenlaa.H
open Go.RowKit Go.Proofs.YtadhfedbgeenlaaW.PrintWords Go.Proofs.YtadhfedbgeenlaaW.PrintLast Go.Proofs.YtadhfedbgeenlaaW.PrintMore
set_option linter.unusedVariables false
set_option linter.unusedSimpArgs false

/-- The ends of a history, and an error's number. -/
def endsE (t : List Rec) (l : List EvT) : Int × List (List Rec) := if tabOk t = true ∧ evOk l = true then (0, endsT t l) else (1, [])
theorem atFL {W : World} {ok : Nat → Prop} {A : Option Addr} {n : Nat} {xs : List (List Rec)} (h : Kd.F (Kd.slice 54 k54) W ok A n xs) (i : Int) (h0 : 0 ≤ i) (h1 : i < n) :
    ∃ ad A0 c0, A = some ad ∧ W.cell? (ad.add i.toNat) = some (.slice A0 (rdRow xs i).length c0) ∧ (rdRow xs i).length ≤ c0 ∧ Kd.F k54 W ok A0 (rdRow xs i).length (rdRow xs i) := by
  obtain ⟨ad, c, e, _, hK, hc0⟩ := Kd.F_get h ([] : List Rec) i h0 h1
  have hc : ∀ j u, c[j]? = some u → W.cell? (ad.add (i.toNat * 1 + j)) = some u := hc0.1
  obtain ⟨A0, c0, rfl, l0, g0⟩ := Kd.FK_slice_open hK
  exact ⟨ad, A0, c0, e, by have hq := hc 0 _ rfl; rwa [Nat.mul_one, Nat.add_zero] at hq, l0, g0⟩
def hasT (x : List Rec) (l : List (List Rec)) : Bool := decide (x ∈ l)
theorem hasT_yes {x : List Rec} {l : List (List Rec)} (h : x ∈ l) : hasT x l = true := decide_eq_true h
theorem hasT_no {x : List Rec} {l : List (List Rec)} (h : ¬ x ∈ l) : hasT x l = false := decide_eq_false h
theorem hasT_step {l : List (List Rec)} {x : List Rec} {k : Nat} (h : k < l.length) : hasT x (l.take (k + 1)) = (hasT x (l.take k) || decide (rdRow l k = x)) := by
  have e : l.take (k + 1) = l.take k ++ [rdRow l k] := take_getD l ([] : List Rec) h
  rw [e]
  by_cases h1 : x ∈ l.take k
  · rw [hasT_yes h1, hasT_yes (List.mem_append_left _ h1)]; rfl
  · rw [hasT_no h1, Bool.false_or]
    by_cases h2 : rdRow l k = x
    · rw [decide_eq_true h2, hasT_yes (List.mem_append_right _ (by rw [h2]; exact List.mem_singleton_self x))]
    · rw [decide_eq_false h2, hasT_no]
      intro h3
      rcases List.mem_append.1 h3 with h3 | h3
      · exact h1 h3
      · exact h2 (List.mem_singleton.1 h3).symm

set_option maxHeartbeats 4000000 in
set_option maxRecDepth 100000 in
theorem endsD_calls (t : List Rec) (l : List EvT) (A : Option Addr) (c : Nat) (B : Option Addr) (cb : Nat) (w : World) (hr : Kd.C k54 w A t.length t) (hv : Kd.C k38 w B l.length l) (hcb : l.length ≤ cb) (hct : t.length ≤ c) (hp : PlainT t) (hlen : t.length ≤ 1000) :
    Calls Try.prog 14 #[.slice A t.length c, .slice B l.length cb] w fun e w' => Below w.heap.size w w' ∧ ∃ v, e = .returned (.tuple #[v, .int .i64 (endsE t l).1]) ∧ NL w' w.heap.size v (endsE t l).2 := by
  obtain ⟨r, hr0⟩ : ∃ r, r = endsE t l := ⟨_, rfl⟩
  have HRR := Lib.hid hr0
  rw [← hr0]
  clear hr0
  have HT := Lib.hid hr
  have HV := Lib.hid hv
  have HTR := Lib.hid (tab2Right_calls A c t w hr)
  have HEX := Lib.hid (fun (h : l.countP (fun e => !e.f1) ≤ 8) (W : World) (hb : Below w.heap.size w W) => ends2_calls l t A c B cb W (fun j => j < w.heap.size) (Kd.F_below (Kd.C_F heap_rec hr) hb) (fun j h => Nat.lt_of_lt_of_le h hb.size) (Kd.C_below hv hb) hcb hct hp hlen h)
  clear hr hv hp
  go_enter Try.func14, Try.ntmps14
  go_wp2_with fail
  refine HTR.out.mono ?_
  rintro E W1 ⟨rfl, hb1⟩
  have HB1 := Lib.hid hb1
  have HER := Lib.hid (ev2Right_calls B cb l W1 (Kd.C_below HV.out hb1))
  clear hb1 HTR
  go_wp2_with fail
  refine HER.out.mono ?_
  rintro E W2 ⟨rfl, hb2⟩
  have HB2 := Lib.hid (below_then HB1.out HB1.out.size hb2)
  clear hb2 HER HB1
  cases hto : tabOk t
  · have HQ := Lib.hid (HRR.out.trans (if_neg (by rw [hto]; intro h; cases h.1)))
    clear HEX HRR
    go_wp2
    all_goals exact bodyPost_ret (v := .tuple #[.slice none 0 0, .int .i64 1]) (results_tmp2 Try.results14 _ _ _) rfl ⟨HB2.out, _, by rw [HQ.out], by rw [HQ.out]; exact Kd.N_nil _ _ _ _ _⟩
  cases heo : evOk l
  · have HQ := Lib.hid (HRR.out.trans (if_neg (by rw [heo]; intro h; cases h.2)))
    clear HEX HRR
    go_wp2
    all_goals exact bodyPost_ret (v := .tuple #[.slice none 0 0, .int .i64 1]) (results_tmp2 Try.results14 _ _ _) rfl ⟨HB2.out, _, by rw [HQ.out], by rw [HQ.out]; exact Kd.N_nil _ _ _ _ _⟩
  have HRQ := Lib.hid (HRR.out.trans (if_pos ⟨hto, heo⟩))
  have HED := Lib.hid (show endsT t l = ddGo [] (waysT t l) from (ddGo_nil _).symm)
  have HCU := Lib.hid (show l.countP (fun e => !e.f1) ≤ 8 by unfold evOk at heo; rw [Bool.and_eq_true, decide_eq_true_eq, decide_eq_true_eq] at heo; exact heo.2)
  have HWL := Lib.hid (Nat.le_trans (ways_len l t) (Nat.pow_le_pow_right (by decide) HCU.out))
  have HEN := Lib.hid (HEX.out HCU.out W2 HB2.out)
  clear HEX HRR hto heo
  generalize endsT t l = es at *
  generalize waysT t l = ws at *
  go_wp2_with fail
  refine HEN.out.mono ?_
  rintro E W3 ⟨v, rfl, hn3, hb3⟩
  obtain ⟨A3, c3, rfl⟩ := Kd.N_slice hn3
  have HB3 := Lib.hid (below_then HB2.out HB2.out.size hb3)
  have HF := Lib.hid (Kd.F_bound (Kd.N_F hn3))
  have hml := Kd.F_max HF.out
  clear hn3 hb3 HEN HB2
  go_wp2
  go_loopw [9, 10] (fun v9 v10 W => ∃ (i m : Nat) (A9 : Option Addr) (c9 : Nat) (out : List (List Rec)), i ≤ ws.length ∧ m = out.length ∧ m ≤ i ∧ v10 = .int .i64 i ∧ v9 = .slice A9 m c9 ∧ Aside0 (NL W W3.heap.size (.slice A9 m c9) out ∧ Below W3.heap.size W3 W ∧ es = ddGo out (ws.drop i))) (fun _ v10 _ => ws.length - (intOf v10).toNat)
  case atStart => exact ⟨0, 0, none, 0, [], Nat.zero_le _, rfl, Nat.le_refl _, rfl, rfl, ⟨Kd.N_nil _ _ _ _ _, Below.refl _ _, HED.out⟩⟩
  case round =>
    obtain ⟨i, m, A9, c9, out, hi, hmo, hmi, rfl, rfl, HI⟩ := hrel
    have HMO := Lib.hid hmo; clear hmo
    have HN := Lib.hid HI.out.1
    have HB := Lib.hid HI.out.2.1
    have HE := Lib.hid HI.out.2.2
    have HBW := Lib.hid (below_then HB3.out HB3.out.size HI.out.2.1)
    clear HI
    by_cases hlt : i < ws.length
    rotate_left
    · obtain rfl : i = ws.length := by omega
      have HQ := Lib.hid (show es = out by rw [HE.out, List.drop_length]; rfl)
      clear hlt
      go_wp2
      exact bodyPost_ret (v := .tuple #[.slice A9 m c9, .int .i64 0]) (results_tmp2 Try.results14 _ _ _) rfl ⟨HBW.out, _, by rw [HRQ.out], by rw [HRQ.out, HQ.out]; exact Kd.N_lower HN.out HB3.out.size⟩
    obtain ⟨ad, A0, c0, hA, h0, hl0, hf0⟩ := atFL HF.out i (by omega) (by omega)
    subst hA
    rw [Int.toNat_natCast] at h0
    have HX0 := Lib.hid h0
    have HDR := Lib.hid (show ws.drop i = rdRow ws i :: ws.drop (i + 1) from drop_getD ws ([] : List Rec) hlt)
    generalize rdRow ws i = x at *
    have HF0 := Lib.hid hf0
    have HL0 := Lib.hid hl0
    clear hf0 hl0 h0
    have b1 : (0 : Int) ≤ i := by omega
    have b2 : (i : Int) < ws.length := by omega
    go_upto_region 11 with (fail)
    go_wp2
    go_loopw [11, 12] (fun v11 v12 W => ∃ (k : Nat), k ≤ m ∧ v12 = .int .i64 k ∧ v11 = .bool (hasT x (out.take k)) ∧ Aside0 (NL W W3.heap.size (.slice A9 m c9) out ∧ Below W3.heap.size W3 W)) (fun _ v12 _ => m - (intOf v12).toNat)
    case atStart => exact ⟨0, Nat.zero_le _, rfl, rfl, ⟨HN.out, HB.out⟩⟩
    case round =>
      obtain ⟨k, hk, rfl, rfl, HI2⟩ := hrel
      clear HN HB HBW
      have HN := Lib.hid HI2.out.1
      have HB := Lib.hid HI2.out.2
      clear HI2
      have h0 := kept_cell HB.out HX0.out
      have b3 : (0 : Int) ≤ k := by omega
      by_cases hkm : k < m
      rotate_left
      · obtain rfl : k = m := by omega
        have HTK := Lib.hid (show out.take k = out by rw [HMO.out, List.take_length])
        clear hkm
        by_cases hin : x ∈ out
        · have HIN := Lib.hid (show hasT x (out.take k) = true by rw [HTK.out]; exact hasT_yes hin)
          have HE2 := Lib.hid (HE.out.trans (by rw [HDR.out, ddGo, if_pos hin] : _ = ddGo out (ws.drop (i + 1))))
          rw [HIN.out]
          clear hin HE
          go_wp2
          go_roundw
          case rel => exact ⟨i + 1, k, A9, c9, out, by omega, HMO.out, by omega, by go_num, rfl, ⟨HN.out, HB.out, HE2.out⟩⟩
          case measure => simp [intOf]; omega
        have HIN := Lib.hid (show hasT x (out.take k) = false by rw [HTK.out]; exact hasT_no hin)
        have HE2 := Lib.hid (HE.out.trans (by rw [HDR.out, ddGo, if_neg hin] : _ = ddGo (out ++ [x]) (ws.drop (i + 1))))
        rw [HIN.out]
        clear hin HE
        go_wp2_with (at_builtin; refine Kd.N_append (Kd.slice 54 k54) (w0 := W3) W3.heap.size rfl (.tmp 52) (.tmp 57) 40 26 (.slice none 0 0) 24 rfl Try.underlying40 info26 rfl (by decide) (by omega) (.slice A9 k c9) out x [.slice A0 x.length c0] (fun _ => True) (fun j => j < W3.heap.size) rfl rfl ?aF ?aK (fun _ _ => trivial) ?aN ?aB ?aS ?aL ?_; (case aF => exact Kd.FK_slice_mk HL0.out (Kd.F_mono (Kd.F_below HF0.out HB.out) (fun j hj => hj.2))); (case aK => exact (fun j hj => ⟨trivial, fun he => by have := Kd.N_base HN.out j he.symm; omega⟩)); (case aN => exact HN.out); (case aB => exact HB.out); (case aS => exact HB.out.size); (case aL => have := HMO.out; have := HWL.out; omega); intro v1 w1 ho1 hb1 hg1 hat1; have HLK := Lib.hid (by rw [List.length_append, List.length_singleton, ← HMO.out] : (out ++ [x]).length = k + 1); obtain ⟨A7, c7, rfl⟩ := Kd.N_slice ho1; rw [HLK.out] at ho1 ⊢; have HO1 := Lib.hid (And.intro ho1 hb1); clear ho1 hb1 hg1 hat1)
        go_roundw
        case rel => exact ⟨i + 1, k + 1, A7, c7, out ++ [x], by omega, HLK.out.symm, by omega, by go_num, rfl, ⟨HO1.out.1, HO1.out.2, HE2.out⟩⟩
        case measure => simp [intOf]; omega
      have b4 : (k : Int) < m := by omega
      have HAT := Lib.hid (hasT_step (x := x) (show k < out.length by have := HMO.out; omega))
      cases hh : hasT x (out.take k)
      rotate_left
      · have HNX := Lib.hid (HAT.out.trans (by rw [hh]; rfl : _ = true))
        clear hh HAT hkm
        go_wp2_with fail
        go_big_quiet (fail)
        go_wp2
        go_roundw
        case rel => exact ⟨k + 1, by omega, by go_num, by rw [HNX.out], ⟨Kd.N_drewN HN.out _, pw_below_drewN HB.out _⟩⟩
        case measure => simp [intOf]; omega
      obtain ⟨ad9, A5, c5, hA9, k0, kl0, kf0⟩ := at_row (Kd.N_reads' HN.out).2.2 (k : Int) (by omega) (by have := HMO.out; omega)
      subst hA9
      rw [Int.toNat_natCast] at k0
      have HNX := Lib.hid (HAT.out.trans (by rw [hh, Bool.false_or] : _ = decide (rdRow out k = x)))
      have HSM := Lib.hid (fun (W : World) (hb : Below wr.heap.size wr W) => tab2_calls A5 A0 c5 c0 (rdRow out k) x W (Kd.C_below kf0 hb) (Kd.C_below (Kd.F_now (Kd.F_below HF0.out HB.out)) hb))
      rw [← HNX.out] at HSM
      clear kf0 kl0 hh HAT
      generalize rdRow out k = y at *
      have HKP := Lib.hid (show ∀ W W2 : World, (W.cell? (ad9.add k) = some (.slice A5 y.length c5) ∧ W.cell? (ad.add i) = some (.slice A0 x.length c0) ∧ Aside0 (Below wr.heap.size wr W)) → Below W.heap.size W W2 → (W2.cell? (ad9.add k) = some (.slice A5 y.length c5) ∧ W2.cell? (ad.add i) = some (.slice A0 x.length c0) ∧ Aside0 (Below wr.heap.size wr W2)) from fun W W2 h hb => ⟨kept_cell hb h.1, kept_cell hb h.2.1, ⟨below_then h.2.2.out h.2.2.out.size hb⟩⟩)
      have hs0 : wr.cell? (ad9.add k) = some (.slice A5 y.length c5) ∧ wr.cell? (ad.add i) = some (.slice A0 x.length c0) ∧ Aside0 (Below wr.heap.size wr wr) := ⟨k0, h0, ⟨Below.refl _ _⟩⟩
      obtain ⟨q1, hq1⟩ : ∃ q1, q1 = hasT x (out.take (k + 1)) := ⟨_, rfl⟩
      have HSQ := Lib.hid hq1
      rw [← hq1] at HSM
      clear hq1
      go_wp2_with fail
      go_region_held3 (fun W => W.cell? (ad9.add k) = some (.slice A5 y.length c5) ∧ W.cell? (ad.add i) = some (.slice A0 x.length c0) ∧ Aside0 (Below wr.heap.size wr W))
        (first | assumption | exact HKP.out _ _ (by assumption) (below_drew (Below.refl _ _)) | go_keep)
        (first | (go_at_call 20; (with_reducible refine (HSM.out _ ?hbx).mono ?_); (case hbx => exact (by assumption : _ ∧ _ ∧ Aside0 (Below wr.heap.size wr _)).2.2.out); rintro E w2 ⟨rfl, hb2⟩; have hs2 := HKP.out _ _ (by assumption) hb2))
      all_goals
        go_wp2
        go_roundw
        case rel => exact ⟨k + 1, by omega, by go_num, by rw [HSQ.out], ⟨Kd.N_below HN.out (by assumption : _ ∧ _ ∧ Aside0 (Below wr.heap.size wr _)).2.2.out, below_then HB.out HB.out.size (by assumption : _ ∧ _ ∧ Aside0 (Below wr.heap.size wr _)).2.2.out⟩⟩
        case measure => simp [intOf]; omega

end Go.Proofs.Ytadhfedbgeenlaa.H
