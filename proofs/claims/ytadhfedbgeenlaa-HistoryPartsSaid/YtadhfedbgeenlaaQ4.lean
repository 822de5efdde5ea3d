/- Parts of the proof, merged: Ka, Kb, Kc, Kd, Ke, Kf, Kg, Kh, Ja, Jc, Jd, Je. -/
import Derived.Test.YtadhfedbgeenlaaQ3
import Derived.Lib.SliceRun
import Derived.Deep.RegionLaw
import Derived.Maps.OwnOps
import Derived.Maps.Views
import Derived.BigRegion
/- slices.Clone of records. -/
namespace Go.Proofs.Ytadhfedbgeenlaa.H
open Go.RowKit Go.Proofs.YtadhfedbgeenlaaW.PrintWords Go.Proofs.YtadhfedbgeenlaaW.PrintLast Go.Proofs.YtadhfedbgeenlaaW.PrintMore
set_option linter.unusedVariables false
set_option linter.unusedSimpArgs false

theorem N_empty (W : World) (base : Nat) (ok : Nat → Prop) (hb : base ≤ W.heap.size) (hok : ok W.heap.size) : Kd.N k54 54 (W.alloc (.cells #[] 54)) base ok (.slice (some ⟨W.heap.size, 0, none⟩) 0 0) [] :=
  Kd.N_mono (Kd.R_N (Kd.R_mono (R_empty k54 54 W base hb) (fun _ _ => trivial) : k54.R 54 (W.alloc (.cells #[] 54)) base (fun _ => True) _ [])) (fun _ _ => trivial) |> fun h => by
    obtain ⟨_, rows, h1, h2, h3⟩ := h
    exact ⟨fun k hk => by simp [Value.ownBlock] at hk; rw [← hk]; exact hok, rows, h1, h2, fun j x c hx => by simp at hx⟩

set_option maxHeartbeats 1000000 in
set_option maxRecDepth 100000 in
theorem cloneR_calls (A : Option Addr) (c : Nat) (l : List S54) (w : World) (okf : Nat → Prop) (hr : Kd.F k54 w okf A l.length l) (hof : ∀ j, okf j → j < w.heap.size) (hl : l.length ≤ 1000) :
    Calls Try.prog 28 #[.slice A l.length c] w fun e w' => ∃ v, e = .returned v ∧ Kd.N k54 54 w' w.heap.size (fun j => okf j ∨ w.heap.size ≤ j) v l ∧ Below w.heap.size w w' := by
  have HR := Lib.hid hr; clear hr
  have HL := Lib.hid hl; clear hl
  have HOF := Lib.hid hof; clear hof
  rcases A with _ | ad
  · obtain rfl := C_none (Kd.F_now HR.out)
    have he := fun w => Lib.run_eql_slice_nil (P := Try.prog) w 26 54 none 0 c 0 0 Try.underlying26
    go_enter Try.func28, Try.ntmps28
    go_wp2
    go_ret
    exact ⟨_, rfl, Kd.N_nil _ _ _ _ _, Below.refl _ _⟩
  · have he := fun w => Lib.run_eql_slice_nil (P := Try.prog) w 26 54 (some ad) l.length c 0 0 Try.underlying26
    have HB := Lib.hid (below_alloc (Below.refl w.heap.size w) (.cells #[] 54))
    have HE := Lib.hid (N_empty w w.heap.size (fun j => okf j ∨ w.heap.size ≤ j) (Nat.le_refl _) (Or.inr (Nat.le_refl _)))
    have HS := Lib.hid (Kd.F_below HR.out HB.out)
    go_enter Try.func28, Try.ntmps28
    go_wp2_with (at_builtin; refine Kd.N_append_rows k54 (w0 := w) w.heap.size rfl (.tmp 5) (.tmp 6) 26 54 (.agg #[(.string ⟨#[]⟩), (.string ⟨#[]⟩), (.int .i64 0), (.int .i64 0), (.string ⟨#[]⟩), (.slice none 0 0)]) 88 rfl Try.underlying26 info54 rfl (by decide) (by omega) (.slice (some ⟨w.heap.size, 0, none⟩) 0 0) [] l _ _ _ (fun j => okf j ∨ w.heap.size ≤ j) okf rfl rfl ?aO ?aR ?aK ?aH ?aB ?aS ?aL ?_; (case aO => exact HE.out); (case aR => exact HS.out); (case aK => exact (fun j hj => ⟨Or.inl hj, fun e => by have := HOF.out j hj; simp [Value.ownBlock] at e; omega⟩)); (case aH => exact (fun k hk => Or.inr (by simp at hk; omega))); (case aB => exact HB.out); (case aS => simp); (case aL => have := HL.out; simp; omega); intro v w2 ho hb hg hat)
    go_ret
    exact ⟨v, rfl, ho, hb⟩

end Go.Proofs.Ytadhfedbgeenlaa.H

/- A table that an op works on (the desk); its rev. -/
namespace Go.Proofs.Ytadhfedbgeenlaa.H
open Go.RowKit Go.Proofs.YtadhfedbgeenlaaW.PrintWords Go.Proofs.YtadhfedbgeenlaaW.PrintLast Go.Proofs.YtadhfedbgeenlaaW.PrintMore
set_option linter.unusedVariables false
set_option linter.unusedSimpArgs false

theorem ten_cells {w : World} {x : Nat} {v0 v1 v2 v3 v4 v5 v6 v7 v8 v9 : Value} {t : Nat} (h : w.heap[x]? = some (.cells #[v0, v1, v2, v3, v4, v5, v6, v7, v8, v9] t (0, 0))) :
    w.cell? ⟨x, 0, none⟩ = some v0 ∧ w.cell? ⟨x, 1, none⟩ = some v1 ∧ w.cell? ⟨x, 2, none⟩ = some v2 ∧ w.cell? ⟨x, 3, none⟩ = some v3 ∧ w.cell? ⟨x, 4, none⟩ = some v4 ∧ w.cell? ⟨x, 5, none⟩ = some v5 ∧ w.cell? ⟨x, 6, none⟩ = some v6 ∧ w.cell? ⟨x, 7, none⟩ = some v7 ∧ w.cell? ⟨x, 8, none⟩ = some v8 ∧ w.cell? ⟨x, 9, none⟩ = some v9 ∧ x < w.heap.size :=
  ⟨(blk_cell h 0).trans rfl, (blk_cell h 1).trans rfl, (blk_cell h 2).trans rfl, (blk_cell h 3).trans rfl, (blk_cell h 4).trans rfl, (blk_cell h 5).trans rfl, (blk_cell h 6).trans rfl, (blk_cell h 7).trans rfl, (blk_cell h 8).trans rfl, (blk_cell h 9).trans rfl, blk_lt h⟩
/-- The desk in block d: its table, its op, the key's place (or where it would be), whether it is there. -/
def DeskW (base : Nat) (w0 : World) (d : Nat) (o : S36) (p : Nat) (here : Bool) (l : List S54) (W : World) : Prop :=
  base ≤ d ∧ Below base w0 W ∧ ∃ (A : Option Addr) (c : Nat), W.heap[d]? = some (.cells #[.slice A l.length c, .int .i64 o.f0, .string o.f1, .string o.f2, .int .i64 o.f3, .string o.f4, .int .i64 o.f5, .string o.f6, .int .i64 p, .bool here] 75 (0, 0)) ∧ Kd.N k54 54 W base (fun j => base ≤ j ∧ j ≠ d) (.slice A l.length c) l
def revD (here : Bool) (l : List S54) (p : Nat) : Int := if here = true then (rd_T54 l p).f2 else 0

set_option maxHeartbeats 2000000 in
set_option maxRecDepth 100000 in
theorem rev_calls (base : Nat) (w0 : World) (d : Nat) (o : S36) (p : Nat) (here : Bool) (l : List S54) (w : World) (hd : DeskW base w0 d o p here l w) (hp : here = true → p < l.length) (hl : l.length ≤ 1000) :
    Calls Try.prog 63 #[.pointer (some ⟨d, 0, none⟩)] w fun e w' => e = .returned (.int .i64 (revD here l p)) ∧ Below w.heap.size w w' := by
  obtain ⟨_, _, A, c, hg, hN⟩ := hd
  obtain ⟨k0, k1, k2, k3, k4, k5, k6, k7, k8, k9, kl⟩ := ten_cells hg
  go_enter Try.func63, Try.ntmps63
  cases here
  · clear hp hN hg
    go_wp2
    go_ret
    exact ⟨rfl, Below.refl _ _⟩
  have hpl := hp rfl
  obtain ⟨g, cap, he, _, _, _, _⟩ := Kd.N_form hN (by omega)
  injection he with he1 _ he3
  subst he1; subst he3
  obtain ⟨A5, c5, _, _, h2, _, _, _, _, _, _⟩ := atN hN p hpl
  have b1 : (0 : Int) ≤ p := by omega
  have b2 : (p : Int) < l.length := by omega
  have HQ := Lib.hid (show revD true l p = (rd_T54 l p).f2 from rfl)
  generalize rd_T54 l p = x at *
  clear hp hN hg
  go_wp2_with fail
  go_big_quiet (fail)
  go_wp2
  go_ret
  exact ⟨ret_int HQ.out.symm, pw_below_drewN (Below.refl _ _) _⟩

end Go.Proofs.Ytadhfedbgeenlaa.H

/- Cells behind a row's end may be written; clear, of elements of more cells than one. -/
namespace Go.Proofs.Ytadhfedbgeenlaa.H
open Go.RowKit Go.Proofs.YtadhfedbgeenlaaW.PrintWords Go.Proofs.YtadhfedbgeenlaaW.PrintLast Go.Proofs.YtadhfedbgeenlaaW.PrintMore
set_option linter.unusedVariables false
set_option linter.unusedSimpArgs false

theorem own_tail {w : World} {base : Nat} {e : TypeId} {size n cap g off : Nat} {xs : List Value} (h : w.ownsRow base e size (.slice (some ⟨g, 0, none⟩) n cap) n xs) (ho : n * size ≤ off) (u : Value) :
    (w.setCell ⟨g, off, none⟩ u).ownsRow base e size (.slice (some ⟨g, 0, none⟩) n cap) n xs := by
  obtain ⟨h1, h2 | ⟨g', cap', cur, hv, hb, hh, h3, h4, h5, h6⟩⟩ := h
  · exact absurd h2.1 (by simp)
  · injection hv with hv1 hv2 hv3
    injection hv1 with hv1
    injection hv1 with hv1
    subst hv1
    subst hv3
    refine ⟨h1, .inr ⟨g, cap, cur.setIfInBounds off u, rfl, hb, blk_set hh off u, h3, h4, by rw [Array.size_setIfInBounds]; exact h5, ?_⟩⟩
    rw [Array.toList_setIfInBounds, List.take_set_of_le ho]
    exact h6
section
variable {α : Type} {d : Kd α} {e base n cap g off : Nat} {ok : Nat → Prop} {W : World} {xs : List α}
theorem N_tail (h : Kd.N d e W base ok (.slice (some ⟨g, 0, none⟩) n cap) xs) (ho : n * d.sz ≤ off) (u : Value) : Kd.N d e (W.setCell ⟨g, off, none⟩ u) base ok (.slice (some ⟨g, 0, none⟩) n cap) xs := by
  have hn := (Kd.N_reads' h).1
  obtain ⟨h0, rows, hl, hR, hf⟩ := h
  obtain ⟨r0, inner, hown, hrep⟩ := hR
  refine ⟨h0, rows, hl, ⟨r0, inner, ?_, hrep⟩, fun j x c hx hc => ?_⟩
  · rw [hl, ← hn] at hown ⊢
    exact own_tail hown ho u
  · exact Kd.FK_step (hf j x c hx hc) (fun k hk _ => Below.heap_setCell W ⟨g, off, none⟩ u k (fun e => hk.2 (by rw [e]; simp [Value.ownBlock])))
theorem N_tails (us : List Value) : ∀ {off : Nat} {W : World}, Kd.N d e W base ok (.slice (some ⟨g, 0, none⟩) n cap) xs → n * d.sz ≤ off → Kd.N d e (W.setCells g off us) base ok (.slice (some ⟨g, 0, none⟩) n cap) xs := by
  induction us with
  | nil => intro off W h _; exact h
  | cons u us ih => intro off W h ho; exact ih (N_tail h ho u) (Nat.le_succ_of_le ho)
end
theorem below_cells {B g : Nat} {w : World} (us : List Value) (hg : B ≤ g) : ∀ {off : Nat} {W : World}, Below B w W → Below B w (W.setCells g off us) := by
  induction us with
  | nil => intro off W h; exact h
  | cons u us ih => intro off W h; exact ih (h.setCell (p := ⟨g, off, none⟩) hg u)
/-- clear(s), s a slice of n > 0 elements: their cells hold the zero value's. -/
theorem run_clear_rows {P : Program} (w : World) (t e ty : TypeId) (z : Value) (ht : P.underlying t = some (.slice e)) (hv : ∀ w, (zeroValue e).run P w = .ok z w) (b o n c : Nat) (hn : 0 < n)
    (h1 : ∀ v ∈ (Builtin.zeroCells z.cells n).toList, v.oneCell' = true) (hc : ∀ j, j < (Builtin.zeroCells z.cells n).toList.length → (w.cell? ⟨b, o + j, none⟩).isSome = true) (hf : ∀ j, j < (Builtin.zeroCells z.cells n).toList.length → w.frozen? ⟨b, o + j, none⟩ = false) :
    (Builtin.clear_ #[t] ty #[.slice (some ⟨b, o, none⟩) n c]).run P w = .ok (.tuple #[]) (w.setCells b o (Builtin.zeroCells z.cells n).toList) := by
  have hst := run_storeCells_cells (P := P) b o (Builtin.zeroCells z.cells n).toList 0 w (by simpa using hc) (by simpa using hf) h1
  simp only [Nat.add_zero] at hst
  obtain ⟨m, rfl⟩ : ∃ m, n = m + 1 := ⟨n - 1, by omega⟩
  simp [Builtin.clear_, run_underlying ht, hv, hst]

end Go.Proofs.Ytadhfedbgeenlaa.H

/- slices.Delete of one record. -/
namespace Go.Proofs.Ytadhfedbgeenlaa.H
open Go.RowKit Go.Proofs.YtadhfedbgeenlaaW.PrintWords Go.Proofs.YtadhfedbgeenlaaW.PrintLast Go.Proofs.YtadhfedbgeenlaaW.PrintMore
set_option linter.unusedVariables false
set_option linter.unusedSimpArgs false

theorem zero_rec (w : World) : (zeroValue 54).run Try.prog w = .ok (.agg #[(.string ⟨#[]⟩), (.string ⟨#[]⟩), (.int .i64 0), (.int .i64 0), (.string ⟨#[]⟩), (.slice none 0 0)]) w := by
  obtain ⟨i0, hi, hzz⟩ := Option.map_eq_some_iff.1 info54
  simp only [Prod.mk.injEq] at hzz
  obtain ⟨hz0, _, _⟩ := hzz
  simp [zeroValue, typeInfo, hi, hz0]
theorem zero_cells : (Builtin.zeroCells (Value.cells (.agg #[(.string ⟨#[]⟩), (.string ⟨#[]⟩), (.int .i64 0), (.int .i64 0), (.string ⟨#[]⟩), (.slice none 0 0)])) 1).toList = [.string ⟨#[]⟩, .string ⟨#[]⟩, .int .i64 0, .int .i64 0, .string ⟨#[]⟩, .slice none 0 0] := by kernel_rfl
theorem N_block {α : Type} {d : Kd α} {e base n cap g : Nat} {ok : Nat → Prop} {w : World} {xs : List α} (h : Kd.N d e w base ok (.slice (some ⟨g, 0, none⟩) n cap) xs) : base ≤ g ∧ ∃ cur : Array Value, w.heap[g]? = some (.cells cur e (0, 0)) ∧ cur.size = cap * d.sz := by
  obtain ⟨h0, rows, hl, hR, hf⟩ := h
  obtain ⟨r0, inner, hown, hrep⟩ := hR
  obtain ⟨h1, h2 | ⟨g', cap', cur, hv, hb, hh, h3, h4, h5, h6⟩⟩ := hown
  · exact absurd h2.1 (by simp)
  · injection hv with hv1 hv2 hv3
    injection hv1 with hv1
    injection hv1 with hv1
    subst hv1
    subst hv3
    exact ⟨hb, cur, hh, h5⟩
theorem cells_other {g k : Nat} (us : List Value) (h : k ≠ g) : ∀ {off : Nat} {W : World}, (W.setCells g off us).heap[k]? = W.heap[k]? := by
  induction us with
  | nil => intro off W; rfl
  | cons u us ih => intro off W; exact ih.trans (Below.heap_setCell W ⟨g, off, none⟩ u k h)
theorem clear_rec (W : World) (ty g m cap c : Nat) (cur : Array Value) (hh : W.heap[g]? = some (.cells cur 54 (0, 0))) (hs : cur.size = cap * 6) (hm : m < cap) :
    (Builtin.clear_ #[26] ty #[.slice (some ⟨g, m * 6, none⟩) 1 c]).run Try.prog W = .ok (.tuple #[]) (W.setCells g (m * 6) [.string ⟨#[]⟩, .string ⟨#[]⟩, .int .i64 0, .int .i64 0, .string ⟨#[]⟩, .slice none 0 0]) := by
  have h := run_clear_rows (P := Try.prog) W 26 54 ty (.agg #[(.string ⟨#[]⟩), (.string ⟨#[]⟩), (.int .i64 0), (.int .i64 0), (.string ⟨#[]⟩), (.slice none 0 0)]) Try.underlying26 zero_rec g (m * 6) 1 c (by decide) (by rw [zero_cells]; decide) (by
    rw [zero_cells]
    intro j hj
    rw [blk_cell hh]
    have hj2 : j < 6 := hj
    rw [Array.getElem?_eq_getElem (by omega)]
    rfl) (fun j _ => blk_frozen hh _)
  rw [zero_cells] at h
  exact h

set_option maxHeartbeats 4000000 in
set_option maxRecDepth 100000 in
theorem delete1_calls (base : Nat) (w0 : World) (g n cap p : Nat) (l : List S54) (ok : Nat → Prop) (w : World) (hN : Kd.N k54 54 w base ok (.slice (some ⟨g, 0, none⟩) n cap) l) (hp : p < n) (hn : n ≤ 1000) (hB : Below base w0 w) (hbw : base ≤ w.heap.size) :
    Calls Try.prog 67 #[.slice (some ⟨g, 0, none⟩) n cap, .int .i64 p, .int .i64 ((p : Int) + 1)] w fun e w' => e = .returned (.slice (some ⟨g, 0, none⟩) (n - 1) cap) ∧ Kd.N k54 54 w' base ok (.slice (some ⟨g, 0, none⟩) (n - 1) cap) (l.eraseIdx p) ∧ Below base w0 w' ∧ ∀ k, k < w.heap.size → k ≠ g → w'.heap[k]? = w.heap[k]? := by
  have hlc := (Kd.N_reads' hN).2.1
  have HN := Lib.hid hN
  have HB := Lib.hid hB
  have HBW := Lib.hid hbw
  clear hN hB hbw
  have hpc : p ≤ cap := by omega
  have hp1 : p + 1 ≤ n := by omega
  have hp2 : p + 1 ≤ cap := by omega
  have hz0 : (0 : Int) ≤ p := by omega
  have hz1 : (0 : Int) ≤ (p : Int) + 1 := by omega
  have hz2 : (p : Int) + 1 ≤ n := by omega
  have hz4 : (p : Int) ≤ (p : Int) + 1 := by omega
  have hz5 : (n : Int) ≤ cap := by omega
  have hne : ((p : Int) == (p : Int) + 1) = false := beq_eq_false_iff_ne.mpr (by omega)
  have hne2 : ¬ (p : Int) = (p : Int) + 1 := by omega
  go_enter Try.func67, Try.ntmps67
  go_upto_region 5 with (fail)
  go_cut [0] (fun v W => v = .slice (some ⟨g, 0, none⟩) (n - 1) cap ∧ Aside0 (Kd.N k54 54 W base ok (.slice (some ⟨g, 0, none⟩) (n - 1) cap) (l.eraseIdx p) ∧ Below base w0 W ∧ w.grownBy W (some g)))
  case first =>
    by_cases hcc : cap = p + 1
    · subst hcc
      have hz3 : (p : Int) ≤ (p : Int) + 1 := by omega
      have HA := Lib.hid (show some (⟨g, 0, none⟩ : Addr) = (if p + 1 = p + 1 then some (⟨g, 0, none⟩ : Addr) else (some (⟨g, 0, none⟩ : Addr)).map (·.add ((p + 1) * 6))) by rw [if_pos rfl])
      go_region_law (refine Kd.N_delete_step k54 (w0 := w0) base (by rfl) (.tmp 22) (.tmp 25) 26 54 (by rfl) Try.underlying26 info_rec_size (g := g) (n := n) (c := p + 1) (k := p) (m := n - (p + 1)) (c2 := p + 1 - (p + 1)) (A := some (⟨g, 0, none⟩ : Addr)) ?e1 ?e2 HA.out (by rfl) (Kd.N_drew HN.out) hp (below_drew HB.out) HBW.out ?_; (case e1 => simp [Act.eval, Act.put]); (case e2 => (simp [Act.eval, Act.put] <;> omega)); intro w1 hn1 hb1 hg1; have HX1 := Lib.hid (And.intro hn1 (And.intro hb1 hg1)); clear hn1 hb1 hg1)
      all_goals
        go_wp2
        go_meet
        case rel => exact ⟨rfl, ⟨HX1.out.1, HX1.out.2.1, ⟨HX1.out.2.2.os, HX1.out.2.2.tape, HX1.out.2.2.output, HX1.out.2.2.size, HX1.out.2.2.block⟩⟩⟩
    have HA := Lib.hid (show some (⟨g, (p + 1) * 6, none⟩ : Addr) = (if cap = p + 1 then some (⟨g, 0, none⟩ : Addr) else (some (⟨g, 0, none⟩ : Addr)).map (·.add ((p + 1) * 6))) by rw [if_neg hcc, Option.map_some, Addr.add_lit, Nat.zero_add])
    go_region_law (refine Kd.N_delete_step k54 (w0 := w0) base (by rfl) (.tmp 22) (.tmp 25) 26 54 (by rfl) Try.underlying26 info_rec_size (g := g) (n := n) (c := cap) (k := p) (m := n - (p + 1)) (c2 := cap - (p + 1)) (A := some (⟨g, (p + 1) * 6, none⟩ : Addr)) ?e1 ?e2 HA.out (by rfl) (Kd.N_drew HN.out) hp (below_drew HB.out) HBW.out ?_; (case e1 => simp [Act.eval, Act.put]); (case e2 => (simp [Act.eval, Act.put] <;> omega)); intro w1 hn1 hb1 hg1; have HX1 := Lib.hid (And.intro hn1 (And.intro hb1 hg1)); clear hn1 hb1 hg1)
    all_goals
      go_wp2
      go_meet
      case rel => exact ⟨rfl, ⟨HX1.out.1, HX1.out.2.1, ⟨HX1.out.2.2.os, HX1.out.2.2.tape, HX1.out.2.2.output, HX1.out.2.2.size, HX1.out.2.2.block⟩⟩⟩
  obtain ⟨rfl, HA⟩ := hcut
  obtain ⟨m, rfl⟩ : ∃ m, n = m + 1 := ⟨n - 1, by omega⟩
  rw [show m + 1 - 1 = m from rfl] at *
  obtain ⟨hbg, cur, hh, hs⟩ := N_block HA.out.1
  have HCL := Lib.hid (fun ty c => clear_rec wc ty g m cap c cur hh hs (by omega))
  have hb0 : (0 : Int) ≤ m := by omega
  have hb1 : (m : Int) ≤ (m : Int) + 1 := by omega
  have hb2 : (m : Int) + 1 ≤ cap := by omega
  have hb3 : ¬ cap = m := by omega
  have hb4 : m + 1 - m = 1 := by omega
  clear hh hs cur
  go_upto_region 6 with (fail)
  go_wp2_with (rw [HCL.out])
  go_ret
  exact ⟨rfl, N_tails _ HA.out.1 (Nat.le_refl _), below_cells _ hbg HA.out.2.1, fun k hk hkg => (cells_other _ hkg).trans (HA.out.2.2.block k hk (fun e => hkg (by injection e)))⟩

end Go.Proofs.Ytadhfedbgeenlaa.H

/- A map of method values: from a number to a function of one receiver. -/
namespace Go.Proofs.Ytadhfedbgeenlaa.H
open Go.RowKit Go.Proofs.YtadhfedbgeenlaaW.PrintWords Go.Proofs.YtadhfedbgeenlaaW.PrintLast Go.Proofs.YtadhfedbgeenlaaW.PrintMore
open Go.Maps (Keyed)
set_option linter.unusedVariables false
set_option linter.unusedSimpArgs false

/-- A method of the value that d points to. -/
def methV (d : Nat) (f : Nat) : Value := .func (.func f) #[.pointer (some ⟨d, 0, none⟩)] #[]
open Classical in
/-- How such a value reads: by its function's number; nil: 0. -/
noncomputable def readF (d : Nat) (v : Value) : Option (DataW Unit × List MemPlace) :=
  if h : ∃ f, v = methV d f then some (.lit (.int .i64 ((Classical.choose h : Nat) : Int)), []) else if v = .nilFunc then some (.lit (.int .i64 0), []) else none
theorem methV_inj {d f f' : Nat} (h : methV d f = methV d f') : f = f' := by
  unfold methV at h
  injection h with h _ _
  injection h
theorem readF_meth (d f : Nat) : readF d (methV d f) = some (.lit (.int .i64 f), []) := by
  unfold readF
  have h : ∃ f', methV d f = methV d f' := ⟨f, rfl⟩
  rw [dif_pos h, ← methV_inj (Classical.choose_spec h)]
theorem readF_nil (d : Nat) : readF d .nilFunc = some (.lit (.int .i64 0), []) := by
  unfold readF
  rw [dif_neg (by rintro ⟨f, h⟩; cases h), if_pos rfl]
theorem readF_back {d f : Nat} {v : Value} {ps : List MemPlace} (hf : 0 < f) (h : readF d v = some (.lit (.int .i64 f), ps)) : v = methV d f := by
  unfold readF at h
  split at h
  · rename_i hx
    injection h with h
    injection h with h _
    injection h with h
    injection h with _ h
    have h2 := Classical.choose_spec hx
    rw [h2]
    congr 1
    omega
  · split at h
    · injection h with h
      injection h with h _
      injection h with h
      injection h with _ h
      omega
    · cases h

/-- Block b is a map of at most n entries: k's method is f k; 0: none. -/
def MapF (d : Nat) (W : World) (b n : Nat) (f : Int → Nat) : Prop :=
  ∃ D : DataW Unit, W.ownsMap Try.prog 3 (readF d) b n D ∧ Maps.IsMap D ∧ ∀ k : Int, D.atKey (.int .i64 k) (.lit (.int .i64 0)) = .lit (.int .i64 (f k))
theorem lawI : Keyed Try.prog 3 := Maps.int_keyed Try.underlying3
theorem zeroF (w : World) : (zeroValue 80).run Try.prog w = .ok .nilFunc w := by kernel_rfl
set_option maxRecDepth 100000 in
theorem wfI (z : Int) (h : -9223372036854775808 ≤ z ∧ z ≤ 9223372036854775807) : (Lit.int .i64 z).wf = true := by
  simp only [Lit.wf, IntKind.min, IntKind.max, IntKind.signed, IntKind.bits, Bool.and_eq_true, decide_eq_true_eq, if_true]
  omega
theorem keyI (z : Int) (h : -9223372036854775808 ≤ z ∧ z ≤ 9223372036854775807) : keyOf Try.prog 3 (.int .i64 z) = some (.int .i64 z) := Maps.keyOf_int_mk Try.underlying3 (wfI z h)
theorem MapF.below {d : Nat} {W W' : World} {b n : Nat} {f : Int → Nat} (h : MapF d W b n f) (hb : Below W.heap.size W W') : MapF d W' b n f := by
  obtain ⟨D, ⟨es, clock, h0, F, h1⟩, h2⟩ := h
  exact ⟨D, ⟨es, clock, (hb.block b (by rcases Nat.lt_or_ge b W.heap.size with h | h; exact h; rw [Array.getElem?_eq_none h] at h0; cases h0)).trans h0, F, h1⟩, h2⟩
theorem MapF.made (d : Nat) (W : World) : MapF d (W.alloc (.map #[] 0)) W.heap.size 0 (fun _ => 0) := ⟨.map [], World.ownsMap_made _ _ _ _, ⟨_, rfl⟩, fun _ => rfl⟩
set_option maxRecDepth 100000 in
theorem MapF.look {d : Nat} {W : World} {b n : Nat} {f : Int → Nat} (h : MapF d W b n f) (k : Int) (hk : -9223372036854775808 ≤ k ∧ k ≤ 9223372036854775807) (hf : 0 < f k) :
    (Instr.lookup 81 (.map (some b)) (.int .i64 k) false).run Try.prog W = .ok (methV d (f k)) W := by
  obtain ⟨D, h1, _, h2⟩ := h
  obtain ⟨v, ps, hr, hat⟩ := h1.lookup lawI Try.underlying81 (zeroF W) (readF_nil d) (keyI k hk)
  rw [h2 k] at hat
  rw [hr, readF_back hf hat]
set_option maxRecDepth 100000 in
theorem MapF.store {d : Nat} {W : World} {b n : Nat} {f : Int → Nat} (h : MapF d W b n f) (hn : n < maxLen) (k : Int) (g : Nat) (hk : -9223372036854775808 ≤ k ∧ k ≤ 9223372036854775807) :
    ∃ W', (Instr.mapUpdate 81 (.map (some b)) (.int .i64 k) (methV d g)).run Try.prog W = .ok () W' ∧ MapF d W' b (n + 1) (fun x => if x = k then g else f x) ∧ W.grownBy W' (some b) := by
  obtain ⟨D, h1, hm, h2⟩ := h
  obtain ⟨W', hr, ho, hg⟩ := h1.update lawI Try.underlying81 hn (keyI k hk) (readF_meth d g)
  refine ⟨W', hr, ⟨_, ho, ?_, ?_⟩, hg⟩
  · exact hm.put _ _
  · intro x
    by_cases hx : x = k
    · subst hx
      rw [Maps.atKey_put_same (k := .int .i64 x) hm trivial]
      simp
    · rw [Maps.atKey_put_other (by intro h; injection h with _ h; exact hx h), h2]
      simp [hx]

end Go.Proofs.Ytadhfedbgeenlaa.H

/- The desk's remove. -/
namespace Go.Proofs.Ytadhfedbgeenlaa.H
open Go.RowKit Go.Proofs.YtadhfedbgeenlaaW.PrintWords Go.Proofs.YtadhfedbgeenlaaW.PrintLast Go.Proofs.YtadhfedbgeenlaaW.PrintMore
set_option linter.unusedVariables false
set_option linter.unusedSimpArgs false

set_option maxHeartbeats 4000000 in
set_option maxRecDepth 100000 in
theorem remove1_calls (base : Nat) (w0 : World) (d : Nat) (o : S36) (p : Nat) (l : List S54) (w : World) (hd : DeskW base w0 d o p true l w) (hp : p < l.length) (hl : l.length ≤ 1000) (hbw : base ≤ w.heap.size) :
    Calls Try.prog 46 #[.pointer (some ⟨d, 0, none⟩)] w fun e w' => e = .returned (.agg #[.int .i64 0, .int .i64 (rd_T54 l p).f2, .string ⟨#[]⟩, .slice none 0 0]) ∧ DeskW base w0 d o p true (l.eraseIdx p) w' := by
  generalize hW0 : w.alloc (.cells #[.int .i64 0, .int .i64 0, .string ⟨#[]⟩, .slice none 0 0] 34) = W0
  have HB0 := Lib.hid (show Below w.heap.size w W0 by rw [← hW0]; exact below_alloc (Below.refl _ _) _)
  have HK1 := Lib.hid (show W0.heap[w.heap.size]? = some (.cells #[.int .i64 0, .int .i64 0, .string ⟨#[]⟩, .slice none 0 0] 34 (0, 0)) by rw [← hW0]; exact new_at rfl _)
  have HW0 := Lib.hid hW0; clear hW0
  obtain ⟨hbd, hB, A, c, hg, hN⟩ := hd
  have hdl := blk_lt hg
  have HD := Lib.hid (show DeskW base w0 d o p true l W0 from ⟨hbd, below_then hB hbw HB0.out, A, c, kept_on HB0.out hg, Kd.N_below hN HB0.out⟩)
  have HRV := Lib.hid (rev_calls base w0 d o p true l W0 HD.out (fun _ => hp) hl)
  rw [show revD true l p = (rd_T54 l p).f2 from rfl] at HRV
  generalize (rd_T54 l p).f2 = rev at *
  obtain ⟨g, cap, he, hgb, hgl, _, _⟩ := Kd.N_form hN (by omega)
  injection he with he1 _ he3
  subst he1; subst he3
  have hgd : g ≠ d := (hN.1 g (by simp [Value.ownBlock])).2
  have HNW := Lib.hid (Kd.N_elderB hN w.heap.size (Nat.le_refl _))
  have HBB := Lib.hid hB
  have HGL := Lib.hid hgl
  have HDL0 := Lib.hid hdl
  have HBD := Lib.hid hbd
  clear hB hN hgl hdl hbd
  obtain ⟨k0, k1, k2, k3, k4, k5, k6, k7, k8, k9, kl⟩ := ten_cells (kept_on HB0.out hg)
  go_enter Try.func46, Try.ntmps46
  go_upto_region 1 with (fail)
  rw [HW0.out]
  clear HW0
  go_wp2_with fail
  refine HRV.out.mono ?_
  rintro e W1 ⟨rfl, hb1⟩
  have HB1 := Lib.hid hb1
  have HKD := Lib.hid (kept_on hb1 (kept_on HB0.out hg))
  have HK2 := Lib.hid (kept_on hb1 HK1.out)
  have HD1 := Lib.hid (And.intro (Kd.N_below (Kd.N_below HNW.out HB0.out) hb1) (below_then (below_then HBB.out hbw HB0.out) (Nat.le_trans hbw HB0.out.size) hb1))
  clear k0 k1 k2 k3 k4 k5 k6 k7 k8 k9 kl hb1 HRV
  obtain ⟨k0, k1, k2, k3, k4, k5, k6, k7, k8, k9, kl⟩ := ten_cells HKD.out
  have k0f := blk_frozen HKD.out 0
  have hw : IntKind.i64.wrap ((p : Int) + 1) = (p : Int) + 1 := IntWalk.i64_in _ ⟨by omega, by omega⟩
  have HDL := Lib.hid (fun (W : World) (q : Nat) (hq : W = W1.drewN q) => delete1_calls base w0 g l.length c p l (fun j => (base ≤ j ∧ j ≠ d) ∧ j ≠ w.heap.size) W (by rw [hq]; exact Kd.N_drewN HD1.out.1 q) hp hl (by rw [hq]; exact pw_below_drewN HD1.out.2 q) (by rw [hq]; exact Nat.le_trans hbw (Nat.le_trans HB0.out.size HB1.out.size)))
  go_upto_region 4 with (fail)
  go_cut [28] (fun v W => Aside0 (Kd.N k54 54 W base (fun j => (base ≤ j ∧ j ≠ d) ∧ j ≠ w.heap.size) (.slice (some ⟨g, 0, none⟩) (l.length - 1) c) (l.eraseIdx p) ∧ Below base w0 W ∧ W.heap[d]? = some (.cells #[.slice (some ⟨g, 0, none⟩) (l.length - 1) c, .int .i64 o.f0, .string o.f1, .string o.f2, .int .i64 o.f3, .string o.f4, .int .i64 o.f5, .string o.f6, .int .i64 p, .bool true] 75 (0, 0)) ∧ W.heap[w.heap.size]? = some (.cells #[.int .i64 0, .int .i64 0, .string ⟨#[]⟩, .slice none 0 0] 34 (0, 0))))
  case first =>
    go_region_with (go_at_call 67; refine (HDL.out _ 1 rfl).mono ?_; rintro E W2 ⟨rfl, hn2, hb2, ho2⟩; have HG2 := Lib.hid ((ho2 d (show d < W1.heap.size from kl) (fun e => hgd e.symm)).trans (show (W1.drewN 1).heap[d]? = _ from HKD.out)); have HK3 := Lib.hid ((ho2 w.heap.size (show w.heap.size < W1.heap.size from blk_lt HK2.out) (fun e => Nat.lt_irrefl _ (e ▸ HGL.out))).trans (show (W1.drewN 1).heap[w.heap.size]? = _ from HK2.out)); obtain ⟨y0, _⟩ := ten_cells HG2.out; have y0f := blk_frozen HG2.out 0; have HX := Lib.hid (And.intro hn2 hb2); clear hn2 hb2 ho2)
    all_goals
      go_wp2
      go_meet
      case rel => exact ⟨Kd.N_far (p := ⟨d, 0, none⟩) HX.out.1 (fun k hk => hk.1.2) _, HX.out.2.setCell (p := ⟨d, 0, none⟩) HBD.out _, blk_put HG2.out 0 _ rfl, blk_far HK3.out (p := ⟨d, 0, none⟩) (fun e => Nat.lt_irrefl _ (e ▸ HDL0.out)) _⟩
  clear k0 k1 k2 k3 k4 k5 k6 k7 k8 k9 kl k0f HDL HD1 HKD HK2
  rename Aside0 _ => HA
  obtain ⟨q0, q1, q2, q3, _, ql⟩ := four_cells HA.out.2.2.2
  have q0f := blk_frozen HA.out.2.2.2 0
  have q1f := blk_frozen HA.out.2.2.2 1
  have q2f := blk_frozen HA.out.2.2.2 2
  have q3f := blk_frozen HA.out.2.2.2 3
  go_wp2
  refine ret_P1 Try.results46 rfl rfl (put4_at HA.out.2.2.2) ⟨rfl, HBD.out, put4_below HA.out.2.1 hbw, some ⟨g, 0, none⟩, c, ?_, ?_⟩
  · rw [List.length_eraseIdx_of_lt hp]
    have hne : d ≠ w.heap.size := fun e => Nat.lt_irrefl _ (e ▸ HDL0.out)
    exact blk_far (blk_far (blk_far (blk_far HA.out.2.2.1 (p := ⟨w.heap.size, 0, none⟩) hne _) (p := ⟨w.heap.size, 1, none⟩) hne _) (p := ⟨w.heap.size, 2, none⟩) hne _) (p := ⟨w.heap.size, 3, none⟩) hne _
  · rw [List.length_eraseIdx_of_lt hp]
    exact Kd.N_mono (put4_N HA.out.1) (fun _ h => h.1)

end Go.Proofs.Ytadhfedbgeenlaa.H

/- The desk's get. -/
namespace Go.Proofs.Ytadhfedbgeenlaa.H
open Go.RowKit Go.Proofs.YtadhfedbgeenlaaW.PrintWords Go.Proofs.YtadhfedbgeenlaaW.PrintLast Go.Proofs.YtadhfedbgeenlaaW.PrintMore
set_option linter.unusedVariables false
set_option linter.unusedSimpArgs false

set_option maxHeartbeats 4000000 in
set_option maxRecDepth 100000 in
theorem get1_calls (base : Nat) (w0 : World) (d : Nat) (o : S36) (p : Nat) (l : List S54) (w : World) (hd : DeskW base w0 d o p true l w) (hp : p < l.length) (hl : l.length ≤ 1000) (hbw : base ≤ w.heap.size) :
    Calls Try.prog 44 #[.pointer (some ⟨d, 0, none⟩)] w fun e w' => e = .returned (.agg #[.int .i64 0, .int .i64 (rd_T54 l p).f2, .string (rd_T54 l p).f1, .slice none 0 0]) ∧ DeskW base w0 d o p true l w' := by
  generalize hW0 : w.alloc (.cells #[.int .i64 0, .int .i64 0, .string ⟨#[]⟩, .slice none 0 0] 34) = W0
  have HB0 := Lib.hid (show Below w.heap.size w W0 by rw [← hW0]; exact below_alloc (Below.refl _ _) _)
  have HK1 := Lib.hid (show W0.heap[w.heap.size]? = some (.cells #[.int .i64 0, .int .i64 0, .string ⟨#[]⟩, .slice none 0 0] 34 (0, 0)) by rw [← hW0]; exact new_at rfl _)
  have HW0 := Lib.hid hW0; clear hW0
  obtain ⟨hbd, hB, A, c, hg, hN⟩ := hd
  have hdl := blk_lt hg
  have hkd := kept_on HB0.out hg
  have HRV := Lib.hid (fun (W : World) (q : Nat) (hq : W = W0.drewN q) => rev_calls base w0 d o p true l W (show DeskW base w0 d o p true l W from by rw [hq]; exact ⟨hbd, pw_below_drewN (below_then hB hbw HB0.out) q, A, c, hkd, Kd.N_drewN (Kd.N_below hN HB0.out) q⟩) (fun _ => hp) hl)
  rw [show revD true l p = (rd_T54 l p).f2 from rfl] at HRV
  obtain ⟨g, cap, he, hgb, hgl, _, _⟩ := Kd.N_form hN (by omega)
  injection he with he1 _ he3
  subst he1; subst he3
  have hgd : g ≠ d := (hN.1 g (by simp [Value.ownBlock])).2
  have HNW := Lib.hid (Kd.N_below (Kd.N_elderB hN w.heap.size (Nat.le_refl _)) HB0.out)
  have HBB := Lib.hid (below_then hB hbw HB0.out)
  have HDL0 := Lib.hid hdl
  have HBD := Lib.hid hbd
  clear hB hN hgl hdl hbd
  obtain ⟨A5, c5, _, h1, _, _, _, _, _, _, _⟩ := atN HNW.out p hp
  have b1 : (0 : Int) ≤ p := by omega
  have b2 : (p : Int) < l.length := by omega
  generalize rd_T54 l p = x at *
  have HKD := Lib.hid (kept_on HB0.out hg)
  obtain ⟨k0, k1, k2, k3, k4, k5, k6, k7, k8, k9, kl⟩ := ten_cells HKD.out
  clear hg hkd
  go_enter Try.func44, Try.ntmps44
  go_upto_region 1 with (fail)
  rw [HW0.out]
  clear HW0
  go_upto_region 3 with (fail)
  go_region_with (go_at_call 63; refine (HRV.out _ 1 rfl).mono ?_; rintro E W2 ⟨rfl, hb2⟩; have HG2 := Lib.hid (kept_on hb2 (show (W0.drewN 1).heap[d]? = _ from HKD.out)); have HK3 := Lib.hid (kept_on hb2 (show (W0.drewN 1).heap[w.heap.size]? = _ from HK1.out)); have y := kept_cell hb2 (show (W0.drewN 1).cell? ⟨g, p * 6 + 1, none⟩ = _ from h1); obtain ⟨z0, z1, z2, z3, z4, z5, z6, z7, z8, z9, zl⟩ := ten_cells HG2.out; obtain ⟨q0, q1, q2, q3, _, ql⟩ := four_cells HK3.out; have q0f := blk_frozen HK3.out 0; have q1f := blk_frozen HK3.out 1; have q2f := blk_frozen HK3.out 2; have q3f := blk_frozen HK3.out 3; have HB2 := Lib.hid (And.intro (Kd.N_below (Kd.N_drewN HNW.out 1) hb2) (below_then (pw_below_drewN HBB.out 1) (Nat.le_trans hbw HB0.out.size) hb2)); clear hb2)
  all_goals
    go_wp2
    refine ret_P1 Try.results44 rfl rfl (put4_at HK3.out) ⟨rfl, HBD.out, put4_below HB2.out.2 hbw, some ⟨g, 0, none⟩, c, ?_, Kd.N_mono (put4_N HB2.out.1) (fun _ h => h.1)⟩
    have hne : d ≠ w.heap.size := fun e => Nat.lt_irrefl _ (e ▸ HDL0.out)
    exact blk_far (blk_far (blk_far (blk_far HG2.out (p := ⟨w.heap.size, 0, none⟩) hne _) (p := ⟨w.heap.size, 1, none⟩) hne _) (p := ⟨w.heap.size, 2, none⟩) hne _) (p := ⟨w.heap.size, 3, none⟩) hne _

end Go.Proofs.Ytadhfedbgeenlaa.H

/- The desk's faults. -/
namespace Go.Proofs.Ytadhfedbgeenlaa.H
open Go.RowKit Go.Proofs.YtadhfedbgeenlaaW.PrintWords Go.Proofs.YtadhfedbgeenlaaW.PrintLast Go.Proofs.YtadhfedbgeenlaaW.PrintMore
set_option linter.unusedVariables false
set_option linter.unusedSimpArgs false
theorem desk_put4 {base : Nat} {w0 W0 W : World} {d g p : Nat} {o : S36} {here : Bool} {l : List S54} {x y z u : Value} (h : DeskW base w0 d o p here l W0) (hbw : base ≤ W0.heap.size) (hB : Below W0.heap.size W0 W) (hg : W0.heap.size ≤ g) : DeskW base w0 d o p here l (put4 W g x y z u) := by
  obtain ⟨hbd, hB0, A, c, hd, hN⟩ := h
  have hdl := blk_lt hd
  have hne : d ≠ g := by omega
  refine ⟨hbd, put4_below (below_then hB0 hbw hB) (by omega), A, c, ?_, Kd.N_mono (put4_N (Kd.N_below (Kd.N_elderB hN g hg) hB)) (fun _ h => h.1)⟩
  exact blk_far (blk_far (blk_far (blk_far (kept_on hB hd) (p := ⟨g, 0, none⟩) hne _) (p := ⟨g, 1, none⟩) hne _) (p := ⟨g, 2, none⟩) hne _) (p := ⟨g, 3, none⟩) hne _
theorem desk_below {base : Nat} {w0 W0 W : World} {d p : Nat} {o : S36} {here : Bool} {l : List S54} (h : DeskW base w0 d o p here l W0) (hbw : base ≤ W0.heap.size) (hB : Below W0.heap.size W0 W) : DeskW base w0 d o p here l W := by
  obtain ⟨hbd, hB0, A, c, hd, hN⟩ := h
  exact ⟨hbd, below_then hB0 hbw hB, A, c, kept_on hB hd, Kd.N_below hN hB⟩

set_option maxHeartbeats 4000000 in
set_option maxRecDepth 100000 in
theorem get0_calls (base : Nat) (w0 : World) (d : Nat) (o : S36) (p : Nat) (l : List S54) (w : World) (hd : DeskW base w0 d o p false l w) (hbw : base ≤ w.heap.size) :
    Calls Try.prog 44 #[.pointer (some ⟨d, 0, none⟩)] w fun e w' => e = .returned (.agg #[.int .i64 70, .int .i64 0, .string ⟨#[]⟩, .slice none 0 0]) ∧ DeskW base w0 d o p false l w' := by
  generalize hW0 : w.alloc (.cells #[.int .i64 0, .int .i64 0, .string ⟨#[]⟩, .slice none 0 0] 34) = W0
  have HB0 := Lib.hid (show Below w.heap.size w W0 by rw [← hW0]; exact below_alloc (Below.refl _ _) _)
  have HK1 := Lib.hid (show W0.heap[w.heap.size]? = some (.cells #[.int .i64 0, .int .i64 0, .string ⟨#[]⟩, .slice none 0 0] 34 (0, 0)) by rw [← hW0]; exact new_at rfl _)
  have HW0 := Lib.hid hW0; clear hW0
  have HD := Lib.hid hd
  obtain ⟨hbd, hB, A, c, hg, hN⟩ := hd
  have HBW := Lib.hid hbw
  obtain ⟨k0, k1, k2, k3, k4, k5, k6, k7, k8, k9, kl⟩ := ten_cells (kept_on HB0.out hg)
  have HF := Lib.hid (fault_calls 70 W0)
  obtain ⟨q0, q1, q2, q3, _, ql⟩ := four_cells HK1.out
  clear hB hN hbd hbw hg
  go_enter Try.func44, Try.ntmps44
  go_upto_region 1 with (fail)
  rw [HW0.out]
  clear HW0
  go_wp2_with fail
  refine HF.out.mono ?_
  rintro e W1 ⟨rfl, hb1⟩
  have HK2 := Lib.hid (kept_on hb1 HK1.out)
  have HB1 := Lib.hid hb1
  clear q0 q1 q2 q3 ql hb1 k0 k1 k2 k3 k4 k5 k6 k7 k8 k9 kl
  obtain ⟨q0, q1, q2, q3, _, ql⟩ := four_cells HK2.out
  have q0f := blk_frozen HK2.out 0
  have q1f := blk_frozen HK2.out 1
  have q2f := blk_frozen HK2.out 2
  have q3f := blk_frozen HK2.out 3
  go_wp2
  exact ret_P1 Try.results44 rfl rfl (put4_at HK2.out) ⟨rfl, desk_put4 HD.out HBW.out (below_then HB0.out HB0.out.size HB1.out) (by omega)⟩

set_option maxHeartbeats 4000000 in
set_option maxRecDepth 100000 in
theorem remove0_calls (base : Nat) (w0 : World) (d : Nat) (o : S36) (p : Nat) (l : List S54) (w : World) (hd : DeskW base w0 d o p false l w) (hbw : base ≤ w.heap.size) :
    Calls Try.prog 46 #[.pointer (some ⟨d, 0, none⟩)] w fun e w' => e = .returned (.agg #[.int .i64 70, .int .i64 0, .string ⟨#[]⟩, .slice none 0 0]) ∧ DeskW base w0 d o p false l w' := by
  generalize hW0 : w.alloc (.cells #[.int .i64 0, .int .i64 0, .string ⟨#[]⟩, .slice none 0 0] 34) = W0
  have HB0 := Lib.hid (show Below w.heap.size w W0 by rw [← hW0]; exact below_alloc (Below.refl _ _) _)
  have HK1 := Lib.hid (show W0.heap[w.heap.size]? = some (.cells #[.int .i64 0, .int .i64 0, .string ⟨#[]⟩, .slice none 0 0] 34 (0, 0)) by rw [← hW0]; exact new_at rfl _)
  have HW0 := Lib.hid hW0; clear hW0
  have HD := Lib.hid hd
  obtain ⟨hbd, hB, A, c, hg, hN⟩ := hd
  have HBW := Lib.hid hbw
  obtain ⟨k0, k1, k2, k3, k4, k5, k6, k7, k8, k9, kl⟩ := ten_cells (kept_on HB0.out hg)
  have HF := Lib.hid (fault_calls 70 W0)
  obtain ⟨q0, q1, q2, q3, _, ql⟩ := four_cells HK1.out
  clear hB hN hbd hbw hg
  go_enter Try.func46, Try.ntmps46
  go_upto_region 1 with (fail)
  rw [HW0.out]
  clear HW0
  go_wp2_with fail
  refine HF.out.mono ?_
  rintro e W1 ⟨rfl, hb1⟩
  have HK2 := Lib.hid (kept_on hb1 HK1.out)
  have HB1 := Lib.hid hb1
  clear q0 q1 q2 q3 ql hb1 k0 k1 k2 k3 k4 k5 k6 k7 k8 k9 kl
  obtain ⟨q0, q1, q2, q3, _, ql⟩ := four_cells HK2.out
  have q0f := blk_frozen HK2.out 0
  have q1f := blk_frozen HK2.out 1
  have q2f := blk_frozen HK2.out 2
  have q3f := blk_frozen HK2.out 3
  go_wp2
  exact ret_P1 Try.results46 rfl rfl (put4_at HK2.out) ⟨rfl, desk_put4 HD.out HBW.out (below_then HB0.out HB0.out.size HB1.out) (by omega)⟩

set_option maxHeartbeats 4000000 in
set_option maxRecDepth 100000 in
theorem mark0_calls (base : Nat) (w0 : World) (d : Nat) (o : S36) (p : Nat) (l : List S54) (w : World) (hd : DeskW base w0 d o p false l w) (hbw : base ≤ w.heap.size) :
    Calls Try.prog 48 #[.pointer (some ⟨d, 0, none⟩)] w fun e w' => e = .returned (.agg #[.int .i64 70, .int .i64 0, .string ⟨#[]⟩, .slice none 0 0]) ∧ DeskW base w0 d o p false l w' := by
  generalize hW0 : (w.alloc (.cells #[.pointer (some ⟨d, 0, none⟩)] 73)).alloc (.cells #[.int .i64 0, .int .i64 0, .string ⟨#[]⟩, .slice none 0 0] 34) = W0
  have HB0 := Lib.hid (show Below w.heap.size w W0 by rw [← hW0]; exact below_alloc (below_alloc (Below.refl _ _) _) _)
  have HK1 := Lib.hid (show W0.heap[w.heap.size + 1]? = some (.cells #[.int .i64 0, .int .i64 0, .string ⟨#[]⟩, .slice none 0 0] 34 (0, 0)) by rw [← hW0]; exact new_at (by simp) _)
  have HK0 := Lib.hid (show W0.heap[w.heap.size]? = some (.cells #[.pointer (some ⟨d, 0, none⟩)] 73 (0, 0)) by rw [← hW0]; exact alloc_on (new_at rfl _) _)
  have p0 : W0.cell? ⟨w.heap.size, 0, none⟩ = some (.pointer (some ⟨d, 0, none⟩)) := (blk_cell HK0.out 0).trans rfl
  have HW0 := Lib.hid hW0; clear hW0
  have HD := Lib.hid hd
  obtain ⟨hbd, hB, A, c, hg, hN⟩ := hd
  have HBW := Lib.hid hbw
  obtain ⟨k0, k1, k2, k3, k4, k5, k6, k7, k8, k9, kl⟩ := ten_cells (kept_on HB0.out hg)
  have HF := Lib.hid (fault_calls 70 W0)
  obtain ⟨q0, q1, q2, q3, _, ql⟩ := four_cells HK1.out
  clear hB hN hbd hbw hg
  go_enter Try.func48, Try.ntmps48
  go_upto_region 1 with (fail)
  rw [HW0.out]
  clear HW0
  go_wp2_with fail
  refine HF.out.mono ?_
  rintro e W1 ⟨rfl, hb1⟩
  have HK2 := Lib.hid (kept_on hb1 HK1.out)
  have HB1 := Lib.hid hb1
  clear q0 q1 q2 q3 ql hb1 k0 k1 k2 k3 k4 k5 k6 k7 k8 k9 kl
  obtain ⟨q0, q1, q2, q3, _, ql⟩ := four_cells HK2.out
  have q0f := blk_frozen HK2.out 0
  have q1f := blk_frozen HK2.out 1
  have q2f := blk_frozen HK2.out 2
  have q3f := blk_frozen HK2.out 3
  go_wp2
  exact ret_P1 Try.results48 rfl rfl (put4_at HK2.out) ⟨rfl, desk_put4 HD.out HBW.out (below_then HB0.out HB0.out.size HB1.out) (by omega)⟩

end Go.Proofs.Ytadhfedbgeenlaa.H

/- Plain law: what ops do keeps a table one that may be. -/
namespace Go.Proofs.Ytadhfedbgeenlaa.H
open Go.RowKit Go.Proofs.YtadhfedbgeenlaaW.PrintWords Go.Proofs.YtadhfedbgeenlaaW.PrintLast Go.Proofs.YtadhfedbgeenlaaW.PrintMore
set_option linter.unusedVariables false
set_option linter.unusedSimpArgs false

abbrev Rec := S54
abbrev OpT := S36
def Rises (l : List Rec) : Prop := l.Pairwise (fun a b => kLt a.f0 b.f0 = true)

theorem tGo_iff : ∀ {l : List Rec} {last : ByteArray}, tGo l last = true ↔ (∀ x ∈ l, recOk 2 x = true ∧ kLt last x.f0 = true) ∧ Rises l
  | [], _ => ⟨fun _ => ⟨fun _ hx => (by cases hx), List.Pairwise.nil⟩, fun _ => rfl⟩
  | x :: xs, last => by
    rw [tGo]
    by_cases hc : recOk 2 x = false ∨ kLe x.f0 last = true
    · rw [if_pos hc]
      refine ⟨fun h => (by cases h), fun h => ?_⟩
      have h1 := h.1 x List.mem_cons_self
      rcases hc with hc | hc
      · rw [hc] at h1; cases h1.1
      · rw [kLe_no.2 h1.2] at hc; cases hc
    · rw [if_neg hc]
      have hr : recOk 2 x = true := by
        cases h : recOk 2 x
        · exact absurd (Or.inl h) hc
        · rfl
      have hk : kLt last x.f0 = true := kLe_no.1 (by
        cases h : kLe x.f0 last
        · rfl
        · exact absurd (Or.inr h) hc)
      rw [tGo_iff]
      constructor
      · rintro ⟨h1, h2⟩
        refine ⟨fun y hy => ?_, List.Pairwise.cons (fun y hy => (h1 y hy).2) h2⟩
        rcases List.mem_cons.1 hy with rfl | hy
        · exact ⟨hr, hk⟩
        · exact ⟨(h1 y hy).1, kLt_trans hk (h1 y hy).2⟩
      · rintro ⟨h1, h2⟩
        cases h2 with
        | cons h3 h4 => exact ⟨fun y hy => ⟨(h1 y (List.mem_cons_of_mem _ hy)).1, h3 y hy⟩, h4⟩
theorem tabOk_iff {l : List Rec} : tabOk l = true ↔ (∀ x ∈ l, recOk 2 x = true) ∧ Rises l ∧ l.length ≤ 20 := by
  unfold tabOk
  rw [Bool.and_eq_true, decide_eq_true_eq, tGo_iff]
  constructor
  · rintro ⟨⟨h1, h2⟩, h3⟩
    exact ⟨fun x hx => (h1 x hx).1, h2, h3⟩
  · rintro ⟨h1, h2, h3⟩
    exact ⟨⟨fun x hx => ⟨h1 x hx, kLt_empty (recOk_key (h1 x hx))⟩, h2⟩, h3⟩

theorem rd_get {l : List Rec} {i : Nat} (h : i < l.length) : rd_T54 l i = l[i] := by
  simp only [rd_T54, Int.toNat_natCast, List.getD_eq_getElem?_getD, List.getElem?_eq_getElem h, Option.getD_some]
theorem rises_map {l : List Rec} : Rises l ↔ (l.map (·.f0)).Pairwise (fun a b => kLt a b = true) := by
  unfold Rises
  rw [List.pairwise_map]
theorem set_rises {l : List Rec} {i : Nat} {x : Rec} (h : Rises l) (hi : i < l.length) (hk : x.f0 = (rd_T54 l i).f0) : Rises (l.set i x) := by
  rw [rises_map] at h ⊢
  rw [List.map_set]
  have e : (l.map (·.f0)).set i x.f0 = l.map (·.f0) := by
    apply List.ext_getElem
    · simp
    · intro j h1 h2
      rw [List.getElem_set]
      split
      · subst i
        rw [hk, rd_get hi, List.getElem_map]
      · rfl
  rw [e]
  exact h
theorem mem_set {l : List Rec} {i : Nat} {x y : Rec} (h : y ∈ l.set i x) : y = x ∨ y ∈ l := by
  rcases List.mem_or_eq_of_mem_set h with h | h
  · exact Or.inr h
  · exact Or.inl h
theorem mem_insR : ∀ {l : List Rec} {r y : Rec}, y ∈ insR l r → y = r ∨ y ∈ l
  | [], r, y, h => by
    rcases List.mem_cons.1 h with h | h
    · exact Or.inl h
    · cases h
  | x :: xs, r, y, h => by
    rw [insR] at h
    split at h
    · rcases List.mem_cons.1 h with h | h
      · exact Or.inl h
      · exact Or.inr h
    · rcases List.mem_cons.1 h with h | h
      · exact Or.inr (by rw [h]; exact List.mem_cons_self)
      · rcases mem_insR h with h | h
        · exact Or.inl h
        · exact Or.inr (List.mem_cons_of_mem _ h)
theorem insR_rises : ∀ {l : List Rec} {r : Rec}, Rises l → (∀ x ∈ l, ¬ x.f0 = r.f0) → Rises (insR l r)
  | [], r, _, _ => List.Pairwise.cons (fun _ h => by cases h) List.Pairwise.nil
  | x :: xs, r, h, hne => by
    rw [insR]
    split
    · rename_i hc
      have hk := kLe_no.1 hc
      refine List.Pairwise.cons (fun y hy => ?_) h
      rcases List.mem_cons.1 hy with rfl | hy
      · exact hk
      · cases h with
        | cons h1 h2 => exact kLt_trans hk (h1 y hy)
    · rename_i hc
      cases h with
      | cons h1 h2 =>
        refine List.Pairwise.cons (fun y hy => ?_) (insR_rises h2 (fun y hy => hne y (List.mem_cons_of_mem _ hy)))
        rcases mem_insR hy with rfl | hy
        · cases hl : kLt x.f0 y.f0
          · exact absurd (kLe_no.2 (kLt_tri hl (hne x List.mem_cons_self))) hc
          · rfl
        · exact h1 y hy
theorem pos_none : ∀ {l : List Rec} {key : ByteArray} {m : Nat}, posGo l key m = none → ∀ x ∈ l, ¬ x.f0 = key
  | [], _, _, _, x, hx => by cases hx
  | y :: ys, key, m, h, x, hx => by
    rw [posGo] at h
    split at h
    · cases h
    · rename_i hc
      rcases List.mem_cons.1 hx with rfl | hx
      · exact hc
      · exact pos_none h x hx
theorem pos_key : ∀ {l : List Rec} {key : ByteArray} {m i : Nat}, posGo l key m = some i → (rd_T54 l ((i - m : Nat) : Int)).f0 = key
  | [], _, _, _, h => by cases h
  | y :: ys, key, m, i, h => by
    rw [posGo] at h
    split at h
    · rename_i hc
      injection h with h
      subst h
      rw [Nat.sub_self]
      exact hc
    · have h1 := (pos_lt h).1
      have h2 := pos_key h
      rw [show i - m = (i - (m + 1)) + 1 by omega]
      rw [← h2]
      simp only [rd_T54, Int.toNat_natCast, List.getD_eq_getElem?_getD, List.getElem?_cons_succ]

theorem op_facts {o : OpT} (h : checkE o = 0) : o.f1.size ≤ 16 ∧ o.f2.size ≤ 200 ∧ o.f6.size ≤ 40 ∧ 0 ≤ o.f5 ∧ o.f5 ≤ 9007199254740992 ∧ (¬ o.f0 = 6 → 1 ≤ o.f1.size) := by
  by_cases hb : badOp o
  · rw [checkE_no hb] at h; cases h
  · refine ⟨Nat.not_lt.1 (fun h => hb ?_), Nat.not_lt.1 (fun h => hb ?_), Nat.not_lt.1 (fun h => hb ?_), Int.not_lt.1 (fun h => hb ?_), Int.not_lt.1 (fun h => hb ?_), fun h6 => ?_⟩
    · unfold badOp; simp only [h, true_or, or_true]
    · unfold badOp; simp only [h, true_or, or_true]
    · unfold badOp; simp only [h, true_or, or_true]
    · unfold badOp; simp only [h, true_or, or_true]
    · unfold badOp; simp only [h, true_or, or_true]
    · rcases Nat.lt_or_ge o.f1.size 1 with h1 | h1
      · exact absurd (Or.inr (Or.inr (Or.inl ⟨ByteArray.ext (Array.eq_empty_of_size_eq_zero (by have : o.f1.data.size = o.f1.size := rfl; omega)), h6⟩))) hb
      · exact h1
theorem recOk_parts {x : Rec} : recOk 2 x = true ↔ (1 ≤ x.f0.size ∧ x.f0.size ≤ 16 ∧ x.f1.size ≤ 200 ∧ 0 ≤ x.f2 ∧ x.f2 ≤ 9007199254740992 ∧ 0 ≤ x.f3 ∧ x.f3 ≤ 9007199254740992 ∧ x.f4.size ≤ 40) ∧ extraOk 2 x.f5 = true := by
  constructor
  · intro h
    by_cases hn : noRec 2 x
    · rw [recOk_no hn] at h; cases h
    · rw [recOk_yes hn] at h
      unfold noRec at hn
      refine ⟨⟨?_, ?_, ?_, ?_, ?_, ?_, ?_, ?_⟩, h⟩ <;> (first | apply Nat.not_lt.1 | apply Int.not_lt.1) <;> intro hc <;> apply hn
      · exact Or.inr (Or.inl hc)
      · exact Or.inr (Or.inr (Or.inl hc))
      · exact Or.inr (Or.inr (Or.inr (Or.inl hc)))
      · exact Or.inr (Or.inr (Or.inr (Or.inr (Or.inl hc))))
      · exact Or.inr (Or.inr (Or.inr (Or.inr (Or.inr (Or.inl hc)))))
      · exact Or.inr (Or.inr (Or.inr (Or.inr (Or.inr (Or.inr (Or.inr (Or.inl hc)))))))
      · exact Or.inr (Or.inr (Or.inr (Or.inr (Or.inr (Or.inr (Or.inr (Or.inr (Or.inl hc))))))))
      · exact Or.inr (Or.inr (Or.inr (Or.inr (Or.inr (Or.inr (Or.inr (Or.inr (Or.inr hc))))))))
  · rintro ⟨⟨h1, h2, h3, h4, h5, h6, h7, h8⟩, he⟩
    have hn : ¬ noRec 2 x := by
      rintro (h | h | h | h | h | h | h | h | h | h)
      · exact h (Or.inr rfl)
      · omega
      · omega
      · omega
      · omega
      · omega
      · exact absurd h.1 (by decide)
      · omega
      · omega
      · omega
    rw [recOk_yes hn]
    exact he

theorem putT_ok {l : List Rec} {o : OpT} (h : tabOk l = true) (hc : checkE o = 0) (h6 : ¬ o.f0 = 6) : tabOk (putT l (posK l o.f1) o).1 = true := by
  obtain ⟨h1, h2, h3⟩ := tabOk_iff.1 h
  obtain ⟨o1, o2, o3, o4, o5, o6⟩ := op_facts hc
  cases hk : posK l o.f1 with
  | none =>
    unfold putT
    simp only
    split
    · exact h
    · rename_i hl
      have hne : ∀ x ∈ l, ¬ x.f0 = (⟨o.f1, o.f2, 1, 0, ⟨#[]⟩, []⟩ : Rec).f0 := fun x hx => pos_none hk x hx
      refine tabOk_iff.2 ⟨fun x hx => ?_, insR_rises h2 hne, by rw [insR_len]; omega⟩
      rcases mem_insR hx with rfl | hx
      · exact recOk_parts.2 ⟨⟨o6 h6, o1, o2, (by decide : (0 : Int) ≤ 1), (by decide : (1 : Int) ≤ 9007199254740992), (by decide : (0 : Int) ≤ 0), (by decide : (0 : Int) ≤ 9007199254740992), (by decide : (⟨#[]⟩ : ByteArray).size ≤ 40)⟩, rfl⟩
      · exact h1 x hx
  | some i =>
    have hi : i < l.length := by have := pos_lt hk; omega
    unfold putT
    simp only
    split
    · exact h
    · rename_i hM
      have hx := h1 _ (rd_mem hi)
      obtain ⟨⟨x1, x2, x3, x4, x5, x6, x7, x8⟩, he⟩ := recOk_parts.1 hx
      refine tabOk_iff.2 ⟨fun y hy => ?_, set_rises h2 hi rfl, by rw [List.length_set]; exact h3⟩
      rcases mem_set hy with rfl | hy
      · exact recOk_parts.2 ⟨⟨x1, x2, o2, by simp only; omega, by simp only; omega, x6, x7, x8⟩, he⟩
      · exact h1 y hy
theorem doT_ok {l : List Rec} (o : OpT) (h : tabOk l = true) : tabOk (doT l o).1 = true := by
  unfold doT
  split
  · rename_i hc
    obtain ⟨h1, h2, h3⟩ := tabOk_iff.1 h
    obtain ⟨o1, o2, o3, o4, o5, o6⟩ := op_facts hc.2
    unfold doK
    split
    · exact h
    · rename_i h6
      split
      · exact putT_ok h hc.2 h6
      · split
        · split
          · exact putT_ok h hc.2 h6
          · exact h
        · cases hk : posK l o.f1 with
          | none => exact h
          | some i =>
            have hi : i < l.length := by have := pos_lt hk; omega
            have hx := h1 _ (rd_mem hi)
            obtain ⟨⟨x1, x2, x3, x4, x5, x6, x7, x8⟩, he⟩ := recOk_parts.1 hx
            simp only
            unfold doS
            split
            · exact h
            · split
              · refine tabOk_iff.2 ⟨fun y hy => h1 y (List.mem_of_mem_eraseIdx hy), h2.sublist (List.eraseIdx_sublist l i), ?_⟩
                have := List.length_eraseIdx_le l i
                simp only
                omega
              · split
                · exact h
                · rename_i hM
                  refine tabOk_iff.2 ⟨fun y hy => ?_, set_rises h2 hi rfl, by rw [List.length_set]; exact h3⟩
                  rcases mem_set hy with rfl | hy
                  · exact recOk_parts.2 ⟨⟨x1, x2, x3, by simp only; omega, by simp only; omega, o4, o5, o3⟩, he⟩
                  · exact h1 y hy
  · exact h

end Go.Proofs.Ytadhfedbgeenlaa.H

/- Plain law: the key's place in a table that rises, found by halves, and where a record is put. -/
namespace Go.Proofs.Ytadhfedbgeenlaa.H
open Go.RowKit Go.Proofs.YtadhfedbgeenlaaW.PrintWords Go.Proofs.YtadhfedbgeenlaaW.PrintLast Go.Proofs.YtadhfedbgeenlaaW.PrintMore
set_option linter.unusedVariables false
set_option linter.unusedSimpArgs false

/-- How many keys are less. -/
def lbN : List Rec → ByteArray → Nat
  | [], _ => 0
  | x :: xs, key => if kLt x.f0 key = true then lbN xs key + 1 else 0
theorem lbN_le : ∀ (l : List Rec) (key : ByteArray), lbN l key ≤ l.length
  | [], _ => Nat.le_refl _
  | x :: xs, key => by
    rw [lbN]
    split
    · exact Nat.succ_le_succ (lbN_le xs key)
    · exact Nat.zero_le _
theorem rd_succ (x : Rec) (xs : List Rec) (k : Nat) : rd_T54 (x :: xs) ((k + 1 : Nat) : Int) = rd_T54 xs (k : Int) := by
  simp only [rd_T54, Int.toNat_natCast, List.getD_eq_getElem?_getD, List.getElem?_cons_succ]
theorem lb_at : ∀ {l : List Rec} {key : ByteArray}, Rises l → ∀ k, k < l.length → kLt (rd_T54 l k).f0 key = decide (k < lbN l key)
  | [], _, _, k, hk => absurd hk (Nat.not_lt_zero _)
  | x :: xs, key, h, k, hk => by
    cases h with
    | cons h1 h2 =>
      rw [lbN]
      cases hx : kLt x.f0 key
      · rw [if_neg (by decide), decide_eq_false (Nat.not_lt_zero _)]
        rcases k with _ | k
        · exact hx
        · rw [rd_succ]
          cases hy : kLt (rd_T54 xs k).f0 key
          · rfl
          · have := kLt_trans (h1 _ (rd_mem (Nat.lt_of_succ_lt_succ hk))) hy
            rw [hx] at this
            cases this
      · rw [if_pos rfl]
        rcases k with _ | k
        · rw [decide_eq_true (Nat.succ_pos _)]
          exact hx
        · rw [rd_succ, lb_at h2 k (Nat.lt_of_succ_lt_succ hk)]
          simp
theorem lbK_of {l : List Rec} (key : ByteArray) (h : Rises l) : lbK l key (lbN l key) := ⟨lbN_le l key, lb_at h⟩
/-- Found by halves just if it is found one by one. -/
theorem pos_is : ∀ {l : List Rec} {key : ByteArray} (m : Nat), Rises l → posGo l key m = if lbN l key < l.length ∧ (rd_T54 l (lbN l key)).f0 = key then some (m + lbN l key) else none
  | [], _, m, _ => rfl
  | x :: xs, key, m, h => by
    cases h with
    | cons h1 h2 =>
      rw [posGo]
      by_cases he : x.f0 = key
      · have hx : kLt x.f0 key = false := by rw [he]; exact kLt_irrefl key
        have hl : lbN (x :: xs) key = 0 := by rw [lbN, if_neg (by rw [hx]; decide)]
        rw [if_pos he, hl, if_pos ⟨Nat.succ_pos _, he⟩]
        rfl
      · rw [if_neg he]
        cases hx : kLt x.f0 key
        · have hl : lbN (x :: xs) key = 0 := by rw [lbN, if_neg (by rw [hx]; decide)]
          have hk := kLt_tri hx he
          rw [hl, if_neg (fun hc => he hc.2), pos_is (m + 1) h2, if_neg]
          rintro ⟨h3, h4⟩
          have := kLt_trans hk (h1 _ (rd_mem h3))
          rw [h4, kLt_irrefl] at this
          cases this
        · have hl : lbN (x :: xs) key = lbN xs key + 1 := by rw [lbN, if_pos hx]
          rw [hl, pos_is (m + 1) h2, rd_succ]
          by_cases hc : lbN xs key < xs.length ∧ (rd_T54 xs (lbN xs key)).f0 = key
          · rw [if_pos hc, if_pos ⟨Nat.succ_lt_succ hc.1, hc.2⟩]
            congr 1
            omega
          · rw [if_neg hc, if_neg (fun h3 => hc ⟨Nat.lt_of_succ_lt_succ h3.1, h3.2⟩)]
theorem posK_is {l : List Rec} (key : ByteArray) (h : Rises l) : posK l key = if lbN l key < l.length ∧ (rd_T54 l (lbN l key)).f0 = key then some (lbN l key) else none := by
  unfold posK
  rw [pos_is 0 h, Nat.zero_add]
/-- Where it is not there, it is put behind those that are less. -/
theorem ins_is : ∀ {l : List Rec} {r : Rec}, (∀ x ∈ l, ¬ x.f0 = r.f0) → Rises l → insR l r = l.take (lbN l r.f0) ++ r :: l.drop (lbN l r.f0)
  | [], r, _, _ => rfl
  | x :: xs, r, hne, h => by
    cases h with
    | cons h1 h2 =>
      rw [insR]
      cases hx : kLt x.f0 r.f0
      · have hl : lbN (x :: xs) r.f0 = 0 := by rw [lbN, if_neg (by rw [hx]; decide)]
        rw [if_pos (kLe_no.2 (kLt_tri hx (hne x List.mem_cons_self))), hl]
        rfl
      · have hl : lbN (x :: xs) r.f0 = lbN xs r.f0 + 1 := by rw [lbN, if_pos hx]
        rw [if_neg (by unfold kLe; rw [hx]; simp), hl, ins_is (fun y hy => hne y (List.mem_cons_of_mem _ hy)) h2]
        rfl

end Go.Proofs.Ytadhfedbgeenlaa.H

/- Plain law: a scan from the key's place on is the document's scan. -/
namespace Go.Proofs.Ytadhfedbgeenlaa.H
open Go.RowKit Go.Proofs.YtadhfedbgeenlaaW.PrintWords Go.Proofs.YtadhfedbgeenlaaW.PrintLast Go.Proofs.YtadhfedbgeenlaaW.PrintMore
set_option linter.unusedVariables false
set_option linter.unusedSimpArgs false

/-- The program's scan: from here on, till the end's key, n keys at most. -/
def scanP : List Rec → ByteArray → Nat → List ByteArray
  | _, _, 0 => []
  | [], _, _ => []
  | x :: xs, hi, n + 1 => if (!hi.toList.isEmpty && !kLt x.f0 hi) = true then [] else x.f0 :: scanP xs hi n
theorem filter_lb (hi : ByteArray) : ∀ {l : List Rec} {key : ByteArray}, Rises l → l.filter (sel key hi) = (l.drop (lbN l key)).filter (sel key hi)
  | [], _, _ => rfl
  | x :: xs, key, h => by
    cases h with
    | cons h1 h2 =>
      rw [lbN]
      cases hx : kLt x.f0 key
      · rw [if_neg (by decide)]
        rfl
      · rw [if_pos rfl, List.drop_succ_cons, ← filter_lb hi h2, List.filter_cons_of_neg]
        unfold sel
        rw [hx]
        simp
theorem drop_lb : ∀ {l : List Rec} {key : ByteArray}, Rises l → ∀ x ∈ l.drop (lbN l key), kLt x.f0 key = false
  | [], _, _, x, hx => by simp at hx
  | y :: ys, key, h, x, hx => by
    cases h with
    | cons h1 h2 =>
      rw [lbN] at hx
      cases hy : kLt y.f0 key
      · rw [hy, if_neg (by decide), List.drop_zero] at hx
        rcases List.mem_cons.1 hx with rfl | hx
        · exact hy
        · cases hk : kLt x.f0 key
          · rfl
          · have := kLt_trans (h1 x hx) hk
            rw [hy] at this
            cases this
      · rw [hy, if_pos rfl, List.drop_succ_cons] at hx
        exact drop_lb h2 x hx
theorem scan_tail (key hi : ByteArray) : ∀ (m : List Rec) (n : Nat), Rises m → (∀ x ∈ m, kLt x.f0 key = false) → ((m.filter (sel key hi)).map (·.f0)).take n = scanP m hi n
  | m, 0, _, _ => by rw [List.take_zero]; cases m <;> rfl
  | [], n + 1, _, _ => rfl
  | x :: xs, n + 1, h, hk => by
    cases h with
    | cons h1 h2 =>
      have hxk := hk x List.mem_cons_self
      rw [scanP]
      cases he : hi.toList.isEmpty
      · cases hl : kLt x.f0 hi
        · have hnone : (x :: xs).filter (sel key hi) = [] := by
            rw [List.filter_eq_nil_iff]
            intro y hy
            unfold sel
            rw [he]
            rcases List.mem_cons.1 hy with rfl | hy
            · rw [hl]; simp
            · cases hyl : kLt y.f0 hi
              · simp
              · have := kLt_trans (h1 y hy) hyl
                rw [hl] at this
                cases this
          rw [hnone, if_pos (by rfl)]
          rfl
        · rw [List.filter_cons_of_pos (by unfold sel; rw [hxk, he, hl]; rfl), List.map_cons, List.take_succ_cons, if_neg (by decide), scan_tail key hi xs n h2 (fun y hy => hk y (List.mem_cons_of_mem _ hy))]
      · rw [List.filter_cons_of_pos (by unfold sel; rw [hxk, he]; rfl), List.map_cons, List.take_succ_cons, if_neg (by simp), scan_tail key hi xs n h2 (fun y hy => hk y (List.mem_cons_of_mem _ hy))]
theorem scan_is {l : List Rec} (key hi : ByteArray) (h : Rises l) : scanD l key hi = scanP (l.drop (lbN l key)) hi 5 := by
  unfold scanD
  rw [filter_lb hi h]
  exact scan_tail key hi _ 5 (h.sublist (List.drop_sublist _ _)) (drop_lb h)

end Go.Proofs.Ytadhfedbgeenlaa.H

/- Plain law: what the program's desk does is what the document's Do does. -/
namespace Go.Proofs.Ytadhfedbgeenlaa.H
open Go.RowKit Go.Proofs.YtadhfedbgeenlaaW.PrintWords Go.Proofs.YtadhfedbgeenlaaW.PrintLast Go.Proofs.YtadhfedbgeenlaaW.PrintMore
set_option linter.unusedVariables false
set_option linter.unusedSimpArgs false

abbrev RepT := S34
/-- The desk's put: p is the key's place, or where it would be. -/
def putP (l : List Rec) (o : OpT) (p : Nat) (here : Bool) : List Rec × RepT :=
  if here = true then (if (rd_T54 l p).f2 = 9007199254740992 then (l, ⟨50, 0, ⟨#[]⟩, []⟩) else (l.set p { rd_T54 l p with f1 := o.f2, f2 := (rd_T54 l p).f2 + 1 }, ⟨0, (rd_T54 l p).f2 + 1, ⟨#[]⟩, []⟩))
  else if 20 ≤ l.length then (l, ⟨50, 0, ⟨#[]⟩, []⟩) else (l.take p ++ ⟨o.f1, o.f2, 1, 0, ⟨#[]⟩, []⟩ :: l.drop p, ⟨0, 1, ⟨#[]⟩, []⟩)
def doP (l : List Rec) (o : OpT) (p : Nat) (here : Bool) : List Rec × RepT :=
  if o.f0 = 6 then (l, ⟨0, 0, ⟨#[]⟩, scanP (l.drop p) o.f4 5⟩)
  else if o.f0 = 2 then putP l o p here
  else if o.f0 = 4 then (if revD here l p = o.f3 then putP l o p here else (l, ⟨71, revD here l p, ⟨#[]⟩, []⟩))
  else if here = true then doS l p o
  else (l, ⟨70, 0, ⟨#[]⟩, []⟩)
def hereP (l : List Rec) (key : ByteArray) : Bool := decide (lbN l key < l.length ∧ (rd_T54 l (lbN l key)).f0 = key)
theorem putP_is {l : List Rec} {o : OpT} (h : Rises l) : putT l (posK l o.f1) o = putP l o (lbN l o.f1) (hereP l o.f1) := by
  unfold hereP putP
  cases hk : posK l o.f1 with
  | none =>
    have hne : ¬ (lbN l o.f1 < l.length ∧ (rd_T54 l (lbN l o.f1)).f0 = o.f1) := fun hc => by
      have := posK_is o.f1 h
      rw [if_pos hc, hk] at this
      cases this
    rw [decide_eq_false hne, if_neg (by decide)]
    unfold putT
    simp only
    have hi := ins_is (l := l) (r := ⟨o.f1, o.f2, 1, 0, ⟨#[]⟩, []⟩) (fun x hx => pos_none hk x hx) h
    rw [hi]
  | some i =>
    have hp := posK_is o.f1 h
    rw [hk] at hp
    by_cases hc : lbN l o.f1 < l.length ∧ (rd_T54 l (lbN l o.f1)).f0 = o.f1
    · rw [if_pos hc] at hp
      injection hp with hp
      rw [decide_eq_true hc, if_pos rfl, ← hp]
      rfl
    · rw [if_neg hc] at hp
      cases hp
theorem rev_is {l : List Rec} {key : ByteArray} (h : Rises l) : revK l (posK l key) = revD (hereP l key) l (lbN l key) := by
  unfold hereP revD
  rw [posK_is key h]
  by_cases hc : lbN l key < l.length ∧ (rd_T54 l (lbN l key)).f0 = key
  · rw [if_pos hc, decide_eq_true hc, if_pos rfl]
    rfl
  · rw [if_neg hc, decide_eq_false hc, if_neg (by decide)]
    rfl
theorem doP_is {l : List Rec} {o : OpT} (h : Rises l) : doK l (posK l o.f1) o = doP l o (lbN l o.f1) (hereP l o.f1) := by
  unfold doK doP
  rw [putP_is h, rev_is h, scan_is o.f1 o.f4 h]
  split
  · rfl
  · split
    · rfl
    · split
      · rfl
      · rw [posK_is o.f1 h]
        unfold hereP
        by_cases hc : lbN l o.f1 < l.length ∧ (rd_T54 l (lbN l o.f1)).f0 = o.f1
        · rw [if_pos hc, decide_eq_true hc, if_pos rfl]
        · rw [if_neg hc, decide_eq_false hc, if_neg (by decide)]

end Go.Proofs.Ytadhfedbgeenlaa.H
