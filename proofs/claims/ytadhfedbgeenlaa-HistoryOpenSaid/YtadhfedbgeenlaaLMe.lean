/- An event of a row of one's own is written whole. -/
import Derived.Test.YtadhfedbgeenlaaQ10
namespace Go.Proofs.Ytadhfedbgeenlaa.H
open Go.RowKit Go.Proofs.YtadhfedbgeenlaaW.PrintWords Go.Proofs.YtadhfedbgeenlaaW.PrintLast Go.Proofs.YtadhfedbgeenlaaW.PrintMore
set_option linter.unusedVariables false
set_option linter.unusedSimpArgs false
/-- Twelve cells, written. -/
abbrev put12o (W : World) (g o : Nat) (y0 y1 y2 y3 y4 y5 y6 y7 y8 y9 y10 y11 : Value) : World := ((((((((((((W.setCell ⟨g, o, none⟩ y0).setCell ⟨g, o + 1, none⟩ y1).setCell ⟨g, o + 2, none⟩ y2).setCell ⟨g, o + 3, none⟩ y3).setCell ⟨g, o + 4, none⟩ y4).setCell ⟨g, o + 5, none⟩ y5).setCell ⟨g, o + 6, none⟩ y6).setCell ⟨g, o + 7, none⟩ y7).setCell ⟨g, o + 8, none⟩ y8).setCell ⟨g, o + 9, none⟩ y9).setCell ⟨g, o + 10, none⟩ y10).setCell ⟨g, o + 11, none⟩ y11)
theorem put12o_below {W w0 : World} {g base o : Nat} {y0 y1 y2 y3 y4 y5 y6 y7 y8 y9 y10 y11 : Value} (h : Below base w0 W) (hg : base ≤ g) : Below base w0 (put12o W g o y0 y1 y2 y3 y4 y5 y6 y7 y8 y9 y10 y11) := by
  have e : ∀ (W : World) (q : Nat) (v : Value), Below base w0 W → Below base w0 (W.setCell ⟨g, q, none⟩ v) := fun W q v h => h.setCell (p := ⟨g, q, none⟩) hg v
  iterate 12 refine e _ _ _ ?_
  exact h
/-- An event's cells. -/
theorem atE {W : World} {base : Nat} {ok : Nat → Prop} {g n cap : Nat} {l : List EvT} (h : Kd.N k38 38 W base ok (.slice (some ⟨g, 0, none⟩) n cap) l) (i : Nat) (hi : i < n) :
    ∃ A11 c11, W.cell? ⟨g, i * 12, none⟩ = some (.int .i64 (rd_T38 l i).f0.f0) ∧ W.cell? ⟨g, i * 12 + 1, none⟩ = some (.string (rd_T38 l i).f0.f1) ∧ W.cell? ⟨g, i * 12 + 2, none⟩ = some (.string (rd_T38 l i).f0.f2) ∧ W.cell? ⟨g, i * 12 + 3, none⟩ = some (.int .i64 (rd_T38 l i).f0.f3) ∧ W.cell? ⟨g, i * 12 + 4, none⟩ = some (.string (rd_T38 l i).f0.f4) ∧ W.cell? ⟨g, i * 12 + 5, none⟩ = some (.int .i64 (rd_T38 l i).f0.f5) ∧ W.cell? ⟨g, i * 12 + 6, none⟩ = some (.string (rd_T38 l i).f0.f6) ∧ W.cell? ⟨g, i * 12 + 7, none⟩ = some (.bool (rd_T38 l i).f1) ∧ W.cell? ⟨g, i * 12 + 8, none⟩ = some (.int .i64 (rd_T38 l i).f2.f0) ∧ W.cell? ⟨g, i * 12 + 9, none⟩ = some (.int .i64 (rd_T38 l i).f2.f1) ∧ W.cell? ⟨g, i * 12 + 10, none⟩ = some (.string (rd_T38 l i).f2.f2) ∧ W.cell? ⟨g, i * 12 + 11, none⟩ = some (.slice A11 (rd_T38 l i).f2.f3.length c11) ∧ ∀ j, W.frozen? ⟨g, i * 12 + j, none⟩ = false := by
  obtain ⟨c, _, hK, hc0, hfr⟩ := Kd.N_elem h z38 (i : Int) (by omega) (by omega)
  have hc : ∀ j u, c[j]? = some u → W.cell? ⟨g, i * 12 + j, none⟩ = some u := hc0
  obtain ⟨A5, c5, rfl, l5, g5⟩ := k38_openF hK
  exact ⟨A5, c5, hc 0 _ rfl, hc 1 _ rfl, hc 2 _ rfl, hc 3 _ rfl, hc 4 _ rfl, hc 5 _ rfl, hc 6 _ rfl, hc 7 _ rfl, hc 8 _ rfl, hc 9 _ rfl, hc 10 _ rfl, hc 11 _ rfl, hfr⟩
theorem setEv {W : World} {base : Nat} {ok : Nat → Prop} {g n cap : Nat} {l : List EvT} (h : Kd.N k38 38 W base ok (.slice (some ⟨g, 0, none⟩) n cap) l) (i : Nat) (hi : i < n) :
    Kd.N k38 38 (put12o W g (i * 12) (.int .i64 (rd_T38 l i).f0.f0) (.string (rd_T38 l i).f0.f1) (.string (rd_T38 l i).f0.f2) (.int .i64 (rd_T38 l i).f0.f3) (.string (rd_T38 l i).f0.f4) (.int .i64 (rd_T38 l i).f0.f5) (.string (rd_T38 l i).f0.f6) (.bool false) (.int .i64 0) (.int .i64 0) (.string ⟨#[]⟩) (.slice none 0 0)) base ok (.slice (some ⟨g, 0, none⟩) n cap) (l.set i (evU (rd_T38 l i).f0)) := by
  obtain ⟨c, _, hK, hc0, hfr⟩ := Kd.N_elem h z38 (i : Int) (by omega) (by omega)
  have hc : ∀ j u, c[j]? = some u → W.cell? ⟨g, i * 12 + j, none⟩ = some u := hc0
  obtain ⟨A5, c5, rfl, l5, g5⟩ := k38_openF hK
  exact (Kd.N_seg h (i : Int) (by omega) (by omega) (seg := [.int .i64 (rd_T38 l i).f0.f0, .string (rd_T38 l i).f0.f1, .string (rd_T38 l i).f0.f2, .int .i64 (rd_T38 l i).f0.f3, .string (rd_T38 l i).f0.f4, .int .i64 (rd_T38 l i).f0.f5, .string (rd_T38 l i).f0.f6, .bool false, .int .i64 0, .int .i64 0, .string ⟨#[]⟩, .slice none 0 0]) (j := 0) rfl hc (show 0 + 12 ≤ 12 by decide) (k38_mkF W _ (evU (rd_T38 l i).f0) (A11 := none) (c11 := 0) (Nat.le_refl 0) (F_nilS W _)) (fun _ hk => hk)).1

end Go.Proofs.Ytadhfedbgeenlaa.H
