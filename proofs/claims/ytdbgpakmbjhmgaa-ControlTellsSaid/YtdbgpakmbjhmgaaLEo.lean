/- What the walk of ControlTells holds. -/
import Derived.Test.YtdbgpakmbjhmgaaLEm
namespace Go.Proofs.Ytdbgpakmbjhmgaa.H
open Go.RowKit Go.Proofs.YtdbgpakmbjhmgaaW.PrintWords Go.Proofs.YtdbgpakmbjhmgaaW.PrintLast Go.Proofs.YtdbgpakmbjhmgaaW.PrintMore
set_option linter.unusedVariables false
set_option linter.unusedSimpArgs false

/-- Two variables that are stored into (ga, gb), and blocks that are read (K); all that lay before wb is as it was. -/
def TI (wb : World) (ga gb : Nat) (ra rb : Ctl) (K : List (Nat × Obj)) (W : World) : Prop :=
  Below wb.heap.size wb W ∧ wb.heap.size ≤ ga ∧ wb.heap.size ≤ gb ∧ ga ≠ gb ∧ OwnC wb.heap.size ga ra W ∧ OwnC wb.heap.size gb rb W ∧ ∀ q ∈ K, W.heap[q.1]? = some q.2 ∧ q.1 ≠ ga ∧ q.1 ≠ gb
theorem TI.below {wb W W' : World} {ga gb : Nat} {ra rb : Ctl} {K : List (Nat × Obj)} (h : TI wb ga gb ra rb K W) (hb : Below W.heap.size W W') : TI wb ga gb ra rb K W' := by
  obtain ⟨h1, h2, h3, h4, h5, h6, h7⟩ := h
  exact ⟨below_then h1 h1.size hb, h2, h3, h4, h5.below hb, h6.below hb, fun q hq => ⟨kept_on hb (h7 q hq).1, (h7 q hq).2⟩⟩
theorem OwnC.lt {b g : Nat} {c : Ctl} {W : World} (h : OwnC b g c W) : g < W.heap.size := by
  obtain ⟨_, _, _, _, h1, _⟩ := h
  exact blk_lt h1
theorem TI.add {wb W : World} {ga gb : Nat} {ra rb : Ctl} {K : List (Nat × Obj)} (h : TI wb ga gb ra rb K W) (o : Obj) : TI wb ga gb ra rb ((W.heap.size, o) :: K) (W.alloc o) := by
  have h' := h.below (below_alloc (Below.refl W.heap.size W) o)
  obtain ⟨h1, h2, h3, h4, h5, h6, h7⟩ := h'
  refine ⟨h1, h2, h3, h4, h5, h6, fun q hq => ?_⟩
  rcases List.mem_cons.1 hq with e | e
  · subst e
    exact ⟨heap_alloc_new _ _, Nat.ne_of_gt h.2.2.2.2.1.lt, Nat.ne_of_gt h.2.2.2.2.2.1.lt⟩
  · exact h7 q e
theorem TI.drop {wb W : World} {ga gb : Nat} {ra rb : Ctl} {q : Nat × Obj} {K : List (Nat × Obj)} (h : TI wb ga gb ra rb (q :: K) W) : TI wb ga gb ra rb K W :=
  ⟨h.1, h.2.1, h.2.2.1, h.2.2.2.1, h.2.2.2.2.1, h.2.2.2.2.2.1, fun x hx => h.2.2.2.2.2.2 x (List.mem_cons_of_mem _ hx)⟩
theorem TI.setA {wb W : World} {ga gb b1 : Nat} {ra rb r : Ctl} {K : List (Nat × Obj)} (h : TI wb ga gb ra rb K W) {A1 A2 : Option Addr} {c1 c2 : Nat}
    (h1 : Kd.R k45 45 W b1 (fun _ => True) (.slice A1 r.2.1.length c1) r.2.1) (h2 : Kd.R k48 48 W b1 (fun _ => True) (.slice A2 r.2.2.length c2) r.2.2) (hb : wb.heap.size ≤ b1) (hs : Bytes r) :
    TI wb ga gb r rb K (((W.setCell ⟨ga, 0, none⟩ (.int .i64 r.1)).setCell ⟨ga, 1, none⟩ (.slice A1 r.2.1.length c1)).setCell ⟨ga, 2, none⟩ (.slice A2 r.2.2.length c2)) := by
  obtain ⟨g1, g2, g3, g4, g5, g6, g7⟩ := h
  refine ⟨below_set (below_set (below_set g1 g2) g2) g2, g2, g3, g4, own_store g5 h1 h2 hb hs, own_other g6 g5 (fun e => g4 e.symm), fun q hq => ?_⟩
  obtain ⟨e1, e2, e3⟩ := g7 q hq
  exact ⟨blk_other (blk_other (blk_other e1 _ _ e2) _ _ e2) _ _ e2, e2, e3⟩
theorem TI.setB {wb W : World} {ga gb b1 : Nat} {ra rb r : Ctl} {K : List (Nat × Obj)} (h : TI wb ga gb ra rb K W) {A1 A2 : Option Addr} {c1 c2 : Nat}
    (h1 : Kd.R k45 45 W b1 (fun _ => True) (.slice A1 r.2.1.length c1) r.2.1) (h2 : Kd.R k48 48 W b1 (fun _ => True) (.slice A2 r.2.2.length c2) r.2.2) (hb : wb.heap.size ≤ b1) (hs : Bytes r) :
    TI wb ga gb ra r K (((W.setCell ⟨gb, 0, none⟩ (.int .i64 r.1)).setCell ⟨gb, 1, none⟩ (.slice A1 r.2.1.length c1)).setCell ⟨gb, 2, none⟩ (.slice A2 r.2.2.length c2)) := by
  obtain ⟨g1, g2, g3, g4, g5, g6, g7⟩ := h
  refine ⟨below_set (below_set (below_set g1 g3) g3) g3, g2, g3, g4, own_other g5 g6 g4, own_store g6 h1 h2 hb hs, fun q hq => ?_⟩
  obtain ⟨e1, e2, e3⟩ := g7 q hq
  exact ⟨blk_other (blk_other (blk_other e1 _ _ e3) _ _ e3) _ _ e3, e2, e3⟩
/-- A controller in a block, of whatever size. -/
def HoldsF (g : Nat) (c : Ctl) (W : World) : Prop :=
  ∃ A1 c1 A2 c2, W.heap[g]? = some (.cells #[.int .i64 c.1, .slice A1 c.2.1.length c1, .slice A2 c.2.2.length c2] 26 (0, 0)) ∧ Kd.C k45 W A1 c.2.1.length c.2.1 ∧ Kd.C k48 W A2 c.2.2.length c.2.2
theorem HoldsF.bound {g : Nat} {c : Ctl} {W : World} (h : HoldsF g c W) (h1 : c.2.1.length ≤ 20) (h2 : c.2.2.length ≤ 20) : HoldsC g c W := by
  obtain ⟨A1, c1, A2, c2, e1, e2, e3⟩ := h
  exact ⟨A1, c1, A2, c2, e1, e2, e3, by omega, by omega⟩
theorem six_cells {w : World} {g : Nat} {a b c d e f : Value} {t : Nat} (h : w.heap[g]? = some (.cells #[a, b, c, d, e, f] t (0, 0))) :
    w.cell? ⟨g, 0, none⟩ = some a ∧ w.cell? ⟨g, 1, none⟩ = some b ∧ w.cell? ⟨g, 2, none⟩ = some c ∧ w.cell? ⟨g, 3, none⟩ = some d ∧ w.cell? ⟨g, 4, none⟩ = some e ∧ w.cell? ⟨g, 5, none⟩ = some f ∧ g < w.heap.size :=
  ⟨(blk_cell h 0).trans rfl, (blk_cell h 1).trans rfl, (blk_cell h 2).trans rfl, (blk_cell h 3).trans rfl, (blk_cell h 4).trans rfl, (blk_cell h 5).trans rfl, blk_lt h⟩
theorem HoldsF.below {g : Nat} {c : Ctl} {W W' : World} (h : HoldsF g c W) (hb : Below W.heap.size W W') : HoldsF g c W' := by
  obtain ⟨A1, c1, A2, c2, h1, h2, h3⟩ := h
  exact ⟨A1, c1, A2, c2, kept_on hb h1, Kd.C_below h2 hb, Kd.C_below h3 hb⟩
/-- The row of the two controllers that the law's loop goes over. -/
def TwoC (w : World) (a b : Ctl) (g : Nat) (W : World) : Prop :=
  Below w.heap.size w W ∧ ∃ A1 c1 A2 c2 B1 d1 B2 d2, W.heap[g]? = some (.cells #[.int .i64 a.1, .slice A1 a.2.1.length c1, .slice A2 a.2.2.length c2, .int .i64 b.1, .slice B1 b.2.1.length d1, .slice B2 b.2.2.length d2] 26 (0, 0)) ∧
    Kd.C k45 W A1 a.2.1.length a.2.1 ∧ Kd.C k48 W A2 a.2.2.length a.2.2 ∧ Kd.C k45 W B1 b.2.1.length b.2.1 ∧ Kd.C k48 W B2 b.2.2.length b.2.2
theorem TwoC.below {w W W' : World} {a b : Ctl} {g : Nat} (h : TwoC w a b g W) (hb : Below W.heap.size W W') : TwoC w a b g W' := by
  obtain ⟨h0, A1, c1, A2, c2, B1, d1, B2, d2, h1, h2, h3, h4, h5⟩ := h
  exact ⟨below_then h0 h0.size hb, A1, c1, A2, c2, B1, d1, B2, d2, kept_on hb h1, Kd.C_below h2 hb, Kd.C_below h3 hb, Kd.C_below h4 hb, Kd.C_below h5 hb⟩
theorem twoC_new {w W : World} {a b : Ctl} {A1 A2 B1 B2 : Option Addr} {c1 c2 d1 d2 : Nat} (h0 : Below w.heap.size w W) (h1 : Kd.C k45 W A1 a.2.1.length a.2.1) (h2 : Kd.C k48 W A2 a.2.2.length a.2.2) (h3 : Kd.C k45 W B1 b.2.1.length b.2.1) (h4 : Kd.C k48 W B2 b.2.2.length b.2.2) :
    TwoC w a b W.heap.size (W.alloc (.cells #[.int .i64 a.1, .slice A1 a.2.1.length c1, .slice A2 a.2.2.length c2, .int .i64 b.1, .slice B1 b.2.1.length d1, .slice B2 b.2.2.length d2] 26)) := by
  have hb := below_alloc (Below.refl W.heap.size W) (.cells #[.int .i64 a.1, .slice A1 a.2.1.length c1, .slice A2 a.2.2.length c2, .int .i64 b.1, .slice B1 b.2.1.length d1, .slice B2 b.2.2.length d2] 26)
  exact ⟨below_then h0 h0.size hb, A1, c1, A2, c2, B1, d1, B2, d2, heap_alloc_new _ _, Kd.C_below h1 hb, Kd.C_below h2 hb, Kd.C_below h3 hb, Kd.C_below h4 hb⟩
/-- Sizes of what commands give. -/
def Small (c : Ctl) : Prop := c.2.1.length ≤ 20 ∧ c.2.2.length ≤ 20
theorem small_bytes {c : Ctl} {f : Int × Ctl} (h : Small c) (hf : Grows f c.2.1 c.2.2) : Bytes f.2 := by
  obtain ⟨h1, h2⟩ := h
  obtain ⟨g1, g2⟩ := hf
  exact ⟨by omega, by omega⟩
end Go.Proofs.Ytdbgpakmbjhmgaa.H
