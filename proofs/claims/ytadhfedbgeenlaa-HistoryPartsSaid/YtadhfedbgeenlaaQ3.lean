/- Parts of the proof, merged: Hv, Hx, Hw, Hy. -/
import Derived.Test.YtadhfedbgeenlaaQ2
import Derived.BigRegion
import Derived.Deep.RegionLaw
import Derived.Lib.Bytealg
/- The document's put. -/
namespace Go.Proofs.Ytadhfedbgeenlaa.H
open Go.RowKit Go.Proofs.YtadhfedbgeenlaaW.PrintWords Go.Proofs.YtadhfedbgeenlaaW.PrintLast Go.Proofs.YtadhfedbgeenlaaW.PrintMore
set_option linter.unusedVariables false
set_option linter.unusedSimpArgs false

/-- A row of records of one's own, all that it leads to being one's own. -/
abbrev NB (W : World) (base : Nat) (v : Value) (l : List S54) : Prop := Kd.N k54 54 W base (fun j => base ≤ j) v l
/-- A reply's variable, written. -/
abbrev put4 (W : World) (g : Nat) (x y z u : Value) : World := (((W.setCell ⟨g, 0, none⟩ x).setCell ⟨g, 1, none⟩ y).setCell ⟨g, 2, none⟩ z).setCell ⟨g, 3, none⟩ u
section
variable {W w0 : World} {g base b2 : Nat} {x y z u a b c d : Value} {v : Value} {l : List S54}
theorem put4_at {t : Nat} (h : W.heap[g]? = some (.cells #[a, b, c, d] t (0, 0))) : (put4 W g x y z u).heap[g]? = some (.cells #[x, y, z, u] t (0, 0)) :=
  blk_put (blk_put (blk_put (blk_put h 0 _ rfl) 1 _ rfl) 2 _ rfl) 3 _ rfl
theorem put4_below (h : Below base w0 W) (hg : base ≤ g) : Below base w0 (put4 W g x y z u) := (((h.setCell (p := ⟨g, 0, none⟩) hg _).setCell (p := ⟨g, 1, none⟩) hg _).setCell (p := ⟨g, 2, none⟩) hg _).setCell (p := ⟨g, 3, none⟩) hg _
theorem put4_N {ok : Nat → Prop} (h : Kd.N k54 54 W base (fun k => ok k ∧ k ≠ g) v l) : Kd.N k54 54 (put4 W g x y z u) base (fun k => ok k ∧ k ≠ g) v l :=
  Kd.N_far (p := ⟨g, 3, none⟩) (Kd.N_far (p := ⟨g, 2, none⟩) (Kd.N_far (p := ⟨g, 1, none⟩) (Kd.N_far (p := ⟨g, 0, none⟩) h (fun _ hk => hk.2) _) (fun _ hk => hk.2) _) (fun _ hk => hk.2) _) (fun _ hk => hk.2) _
theorem N_only {ok : Nat → Prop} (h : Kd.N k54 54 W base (fun k => base ≤ k ∧ ok k) v l) : NB W base v l := Kd.N_mono h (fun _ hk => hk.1)
end
/-- Element i of a row of one's own: its cells, and what they lead to. -/
theorem atN {W : World} {base : Nat} {ok : Nat → Prop} {g n cap : Nat} {l : List S54} (h : Kd.N k54 54 W base ok (.slice (some ⟨g, 0, none⟩) n cap) l) (i : Nat) (hi : i < n) :
    ∃ A5 c5, W.cell? ⟨g, i * 6, none⟩ = some (.string (rd_T54 l i).f0) ∧ W.cell? ⟨g, i * 6 + 1, none⟩ = some (.string (rd_T54 l i).f1) ∧ W.cell? ⟨g, i * 6 + 2, none⟩ = some (.int .i64 (rd_T54 l i).f2) ∧ W.cell? ⟨g, i * 6 + 3, none⟩ = some (.int .i64 (rd_T54 l i).f3) ∧ W.cell? ⟨g, i * 6 + 4, none⟩ = some (.string (rd_T54 l i).f4) ∧ W.cell? ⟨g, i * 6 + 5, none⟩ = some (.slice A5 (rd_T54 l i).f5.length c5) ∧
      (rd_T54 l i).f5.length ≤ c5 ∧ Kd.F k60 W (fun k => ok k ∧ k ≠ g) A5 (rd_T54 l i).f5.length (rd_T54 l i).f5 ∧ ∀ j, W.frozen? ⟨g, i * 6 + j, none⟩ = false := by
  obtain ⟨c, _, hK, hc0, hfr⟩ := Kd.N_elem h z54 (i : Int) (by omega) (by omega)
  have hc : ∀ j u, c[j]? = some u → W.cell? ⟨g, i * 6 + j, none⟩ = some u := hc0
  obtain ⟨A5, c5, rfl, l5, g5⟩ := k54_openF hK
  exact ⟨A5, c5, hc 0 _ rfl, hc 1 _ rfl, hc 2 _ rfl, hc 3 _ rfl, hc 4 _ rfl, hc 5 _ rfl, l5, g5, hfr⟩
/-- One cell of element i is written: it is another record then. -/
theorem N_set1 {W : World} {base : Nat} {ok : Nat → Prop} {g n cap : Nat} {l : List S54} (h : Kd.N k54 54 W base ok (.slice (some ⟨g, 0, none⟩) n cap) l) (i : Nat) (hi : i < n) (j : Nat) (hj : j < 6) {u a b c d e f : Value} {x' : S54}
    (h0 : W.cell? ⟨g, i * 6, none⟩ = some a) (h1 : W.cell? ⟨g, i * 6 + 1, none⟩ = some b) (h2 : W.cell? ⟨g, i * 6 + 2, none⟩ = some c) (h3 : W.cell? ⟨g, i * 6 + 3, none⟩ = some d) (h4 : W.cell? ⟨g, i * 6 + 4, none⟩ = some e) (h5 : W.cell? ⟨g, i * 6 + 5, none⟩ = some f)
    (hM : Kd.FK k54 W (fun k => ok k ∧ k ≠ g) x' ([a, b, c, d, e, f].take j ++ [u] ++ [a, b, c, d, e, f].drop (j + 1))) :
    Kd.N k54 54 (W.setCell ⟨g, i * 6 + j, none⟩ u) base ok (.slice (some ⟨g, 0, none⟩) n cap) (l.set i x') :=
  (Kd.N_seg h (i : Int) (by omega) (by omega) (c := [a, b, c, d, e, f]) (seg := [u]) (j := j) rfl (fun q v hq => by
    have hlt := (List.getElem?_eq_some_iff.1 hq).1
    simp only [List.length_cons, List.length_nil] at hlt
    show W.cell? ⟨g, i * 6 + q, none⟩ = some v
    rcases q with _ | _ | _ | _ | _ | _ | q
    · injection hq with hq; rw [← hq]; exact h0
    · injection hq with hq; rw [← hq]; exact h1
    · injection hq with hq; rw [← hq]; exact h2
    · injection hq with hq; rw [← hq]; exact h3
    · injection hq with hq; rw [← hq]; exact h4
    · injection hq with hq; rw [← hq]; exact h5
    · omega) (show j + 1 ≤ 6 by omega) hM (fun _ hk => hk)).1
theorem rd_set (l : List S54) (x : S54) {i : Nat} (h : i < l.length) : rd_T54 (l.set i x) i = x := by
  simp only [rd_T54, Int.toNat_natCast, List.getD_eq_getElem?_getD, List.getElem?_set_self h, Option.getD_some]
def maxNum : Int := 9007199254740992
/-- OpPut upon a table: k is the key's place. -/
def putT (l : List S54) (k : Option Nat) (o : S36) : List S54 × S34 :=
  match k with
  | none => if 20 ≤ l.length then (l, ⟨50, 0, ⟨#[]⟩, []⟩) else (insR l ⟨o.f1, o.f2, 1, 0, ⟨#[]⟩, []⟩, ⟨0, 1, ⟨#[]⟩, []⟩)
  | some i => if (rd_T54 l i).f2 = 9007199254740992 then (l, ⟨50, 0, ⟨#[]⟩, []⟩) else (l.set i { rd_T54 l i with f1 := o.f2, f2 := (rd_T54 l i).f2 + 1 }, ⟨0, (rd_T54 l i).f2 + 1, ⟨#[]⟩, []⟩)
/-- What a call that works upon a row of its caller's own gives: the row and a reply without keys. -/
def GotT (base : Nat) (w0 : World) (r : List S54 × S34) (e : Ending) (w' : World) : Prop :=
  ∃ A c, e = .returned (.tuple #[.slice A r.1.length c, .agg #[.int .i64 r.2.f0, .int .i64 r.2.f1, .string r.2.f2, .slice none 0 0]]) ∧ NB w' base (.slice A r.1.length c) r.1 ∧ Below base w0 w' ∧ r.2.f3 = []
theorem gotT_mk {base : Nat} {w0 w' : World} {l : List S54} {a b : Int} {s : ByteArray} {v : Value} {r : List S54 × S34} (hr : r = (l, ⟨a, b, s, []⟩)) (hN : NB w' base v l) (hb : Below base w0 w') :
    GotT base w0 r (.returned (.tuple #[v, .agg #[.int .i64 a, .int .i64 b, .string s, .slice none 0 0]])) w' := by
  subst hr
  obtain ⟨A, c, rfl⟩ := Kd.N_slice hN
  exact ⟨A, c, rfl, hN, hb, rfl⟩

set_option maxHeartbeats 4000000 in
set_option maxRecDepth 100000 in
theorem put2_calls (base : Nat) (w0 : World) (v : Value) (l : List S54) (k : Option Nat) (o : S36) (w : World) (hN : NB w base v l) (hB : Below base w0 w) (hbw : base ≤ w.heap.size) (hlen : l.length ≤ 1000) (hk : ∀ i, k = some i → i < l.length ∧ -9223372036854775808 ≤ (rd_T54 l i).f2 ∧ (rd_T54 l i).f2 ≤ 9007199254740992) :
    Calls Try.prog 35 #[v, .int .i64 (posI k), .agg #[.int .i64 o.f0, .string o.f1, .string o.f2, .int .i64 o.f3, .string o.f4, .int .i64 o.f5, .string o.f6]] w (GotT base w0 (putT l k o)) := by
  obtain ⟨A, c, rfl⟩ := Kd.N_slice hN
  obtain ⟨r, hr⟩ : ∃ r, r = putT l k o := ⟨_, rfl⟩
  have HP := Lib.hid hr
  rw [← hr]
  clear hr
  have HG := Lib.hid (fun (W : World) (l2 : List S54) (a b : Int) (s : ByteArray) (v : Value) (h1 : r = (l2, ⟨a, b, s, []⟩)) (h2 : NB W base v l2) (h3 : Below base w0 W) => gotT_mk h1 h2 h3)
  generalize hW0 : (w.alloc (.cells #[.int .i64 o.f0, .string o.f1, .string o.f2, .int .i64 o.f3, .string o.f4, .int .i64 o.f5, .string o.f6] 36)).alloc (.cells #[.int .i64 0, .int .i64 0, .string ⟨#[]⟩, .slice none 0 0] 34) = W0
  have HB0 := Lib.hid (show Below w.heap.size w W0 by rw [← hW0]; exact below_alloc (below_alloc (Below.refl _ _) _) _)
  have HK0 := Lib.hid (show W0.heap[w.heap.size]? = some (.cells #[.int .i64 o.f0, .string o.f1, .string o.f2, .int .i64 o.f3, .string o.f4, .int .i64 o.f5, .string o.f6] 36 (0, 0)) by rw [← hW0]; exact alloc_on (new_at rfl _) _)
  have HK1 := Lib.hid (show W0.heap[w.heap.size + 1]? = some (.cells #[.int .i64 0, .int .i64 0, .string ⟨#[]⟩, .slice none 0 0] 34 (0, 0)) by rw [← hW0]; exact new_at (by simp) _)
  have HSZ := Lib.hid (show W0.heap.size = w.heap.size + 2 by rw [← hW0]; simp)
  have HW0 := Lib.hid hW0; clear hW0
  have HBB := Lib.hid (below_then hB hbw HB0.out)
  have HN0 := Lib.hid (Kd.N_below (Kd.N_elderB hN (w.heap.size + 1) (by omega)) HB0.out : Kd.N k54 54 W0 base (fun j => base ≤ j ∧ j ≠ w.heap.size + 1) (.slice A l.length c) l)
  have HBW := Lib.hid hbw
  have hln := HBW.out
  clear hN hB hbw
  obtain ⟨p0, p1, p2, p3, p4, p5, p6, _, pl⟩ := seven_cells HK0.out
  obtain ⟨q0, q1, q2, q3, _, ql⟩ := four_cells HK1.out
  have q0f := blk_frozen HK1.out 0
  have q1f := blk_frozen HK1.out 1
  have q2f := blk_frozen HK1.out 2
  have q3f := blk_frozen HK1.out 3
  go_enter Try.func35, Try.ntmps35
  go_upto_region 1 with (fail)
  rw [HW0.out]
  clear HW0
  cases k with
  | none =>
    rw [show posI none = -1 from rfl]
    by_cases h20 : 20 ≤ l.length
    · have e1 : (20 : Int) ≤ l.length := by omega
      have HQ := Lib.hid (HP.out.trans (show putT l none o = (l, ⟨50, 0, ⟨#[]⟩, []⟩) from if_pos h20))
      have HF := Lib.hid (fault2_calls 50 W0)
      clear HP h20
      go_wp2_with fail
      refine HF.out.mono ?_
      rintro e W1 ⟨rfl, hb1⟩
      have HK2 := Lib.hid (kept_on hb1 HK1.out)
      have HB1 := Lib.hid hb1
      clear q0 q1 q2 q3 ql q0f q1f q2f q3f hb1
      obtain ⟨q0, q1, q2, q3, _, ql⟩ := four_cells HK2.out
      have q0f := blk_frozen HK2.out 0
      have q1f := blk_frozen HK2.out 1
      have q2f := blk_frozen HK2.out 2
      have q3f := blk_frozen HK2.out 3
      go_wp2
      exact ret_TP Try.results35 rfl rfl rfl (put4_at HK2.out) (HG.out _ _ _ _ _ _ HQ.out (N_only (put4_N (Kd.N_below HN0.out HB1.out))) (put4_below (below_then HBB.out (Nat.le_trans hln HB0.out.size) HB1.out) (by omega)))
    have e1 : ¬ (20 : Int) ≤ l.length := by omega
    have e1' : decide ((20 : Int) ≤ l.length) = false := decide_eq_false e1
    have HQ := Lib.hid (HP.out.trans (show putT l none o = (insR l ⟨o.f1, o.f2, 1, 0, ⟨#[]⟩, []⟩, ⟨0, 1, ⟨#[]⟩, []⟩) from if_neg h20))
    have HC := Lib.hid (with2_calls A c l o.f1 o.f2 W0 (fun j => base ≤ j ∧ j ≠ w.heap.size + 1) (Kd.N_F HN0.out) hlen)
    clear HP h20
    go_wp2_with fail
    refine HC.out.mono ?_
    rintro e W1 ⟨v1, rfl, hn1, hb1⟩
    have HK2 := Lib.hid (kept_on hb1 HK1.out)
    have HB1 := Lib.hid hb1
    have HN1 := Lib.hid hn1
    clear q0 q1 q2 q3 ql q0f q1f q2f q3f hb1 hn1
    obtain ⟨q0, q1, q2, q3, _, ql⟩ := four_cells HK2.out
    have q0f := blk_frozen HK2.out 0
    have q1f := blk_frozen HK2.out 1
    have q2f := blk_frozen HK2.out 2
    have q3f := blk_frozen HK2.out 3
    go_wp2
    exact ret_TP Try.results35 rfl rfl rfl (put4_at HK2.out) (HG.out _ _ _ _ _ _ HQ.out (N_only (put4_N (Kd.N_mono (Kd.N_lower HN1.out (Nat.le_trans hln HB0.out.size)) (fun j hj => by have := HSZ.out; rcases hj with hj | hj; exact hj; exact ⟨by omega, by omega⟩)))) (put4_below (below_then HBB.out (Nat.le_trans hln HB0.out.size) HB1.out) (by omega)))
  | some i =>
    obtain ⟨hil, hlo, hhi⟩ := hk i rfl
    rw [show posI (some i) = (i : Int) from rfl]
    obtain ⟨g, cap, he, hgb, hgl, cells, hcells⟩ := Kd.N_form HN0.out (by omega)
    injection he with he1 _ he3
    subst he1; subst he3
    have HNE := Lib.hid (Kd.N_ne HN0.out HK1.out (by decide) : some (w.heap.size + 1) ≠ _)
    have hg1 : g ≠ w.heap.size + 1 := fun e => HNE.out (by rw [e]; simp [Value.ownBlock])
    have HNE2 := Lib.hid (Kd.N_ne HN0.out HK0.out (by decide) : some w.heap.size ≠ _)
    have hg0 : g ≠ w.heap.size := fun e => HNE2.out (by rw [e]; simp [Value.ownBlock])
    have HGE := Lib.hid (And.intro hg0 hg1)
    clear hg0 hg1 HNE HNE2 hcells
    obtain ⟨A5, c5, h0, h1, h2, h3, h4, h5, hl5, hF5, hfr⟩ := atN HN0.out i hil
    have HPS := Lib.hid (HP.out.trans (show putT l (some i) o = if (rd_T54 l i).f2 = 9007199254740992 then (l, ⟨50, 0, ⟨#[]⟩, []⟩) else (l.set i { rd_T54 l i with f1 := o.f2, f2 := (rd_T54 l i).f2 + 1 }, ⟨0, (rd_T54 l i).f2 + 1, ⟨#[]⟩, []⟩) from rfl))
    clear HP
    generalize rd_T54 l i = x at *
    have b1 : (0 : Int) ≤ i := by omega
    have b2 : (i : Int) < l.length := by omega
    have b3 : ¬ (i : Int) < 0 := by omega
    by_cases hM : x.f2 = 9007199254740992
    · have qM : (x.f2 == 9007199254740992) = true := by simpa using hM
      have HQ := Lib.hid (HPS.out.trans (if_pos hM))
      have HF := Lib.hid (fault2_calls 50 W0)
      clear HPS hM hlo hhi
      have hf2 := hfr 2
      go_wp2_with fail
      refine HF.out.mono ?_
      rintro e W1 ⟨rfl, hb1⟩
      have HK2 := Lib.hid (kept_on hb1 HK1.out)
      have HB1 := Lib.hid hb1
      clear q0 q1 q2 q3 ql q0f q1f q2f q3f hb1
      obtain ⟨q0, q1, q2, q3, _, ql⟩ := four_cells HK2.out
      have q0f := blk_frozen HK2.out 0
      have q1f := blk_frozen HK2.out 1
      have q2f := blk_frozen HK2.out 2
      have q3f := blk_frozen HK2.out 3
      go_wp2
      exact ret_TP Try.results35 rfl rfl rfl (put4_at HK2.out) (HG.out _ _ _ _ _ _ HQ.out (N_only (put4_N (Kd.N_below HN0.out HB1.out))) (put4_below (below_then HBB.out (Nat.le_trans hln HB0.out.size) HB1.out) (by omega)))
    have qM : (x.f2 == 9007199254740992) = false := by simpa using hM
    have HQ := Lib.hid (HPS.out.trans (if_neg hM))
    have hwr : IntKind.i64.wrap (x.f2 + 1) = x.f2 + 1 := IntWalk.i64_in _ ⟨by omega, by omega⟩
    clear HPS hM
    have hf2 := hfr 2
    have hf1 := hfr 1
    obtain ⟨x1, hx1⟩ : ∃ y : S54, y = ⟨x.f0, o.f2, x.f2, x.f3, x.f4, x.f5⟩ := ⟨_, rfl⟩
    obtain ⟨x2, hx2⟩ : ∃ y : S54, y = ⟨x.f0, o.f2, x.f2 + 1, x.f3, x.f4, x.f5⟩ := ⟨_, rfl⟩
    have HX1 := Lib.hid hx1
    have HX2 := Lib.hid hx2
    have HGB := Lib.hid hgb
    have HFK1 := Lib.hid (show Kd.FK k54 W0 (fun k => (base ≤ k ∧ k ≠ w.heap.size + 1) ∧ k ≠ g) x1 [.string x.f0, .string o.f2, .int .i64 x.f2, .int .i64 x.f3, .string x.f4, .slice A5 x.f5.length c5] by rw [HX1.out]; exact k54_mkF _ _ ⟨x.f0, o.f2, x.f2, x.f3, x.f4, x.f5⟩ hl5 hF5)
    clear hx1 hx2
    go_upto_region 5 with (fail)
    go_cut [44] (fun v44 W => Aside0 (Kd.N k54 54 W base (fun j => base ≤ j ∧ j ≠ w.heap.size + 1) (.slice (some ⟨g, 0, none⟩) l.length c) (l.set i x1) ∧ Below base w0 W ∧ W.heap[w.heap.size]? = some (.cells #[.int .i64 o.f0, .string o.f1, .string o.f2, .int .i64 o.f3, .string o.f4, .int .i64 o.f5, .string o.f6] 36 (0, 0)) ∧ W.heap[w.heap.size + 1]? = some (.cells #[.int .i64 0, .int .i64 0, .string ⟨#[]⟩, .slice none 0 0] 34 (0, 0))))
    case first =>
      go_wp2
      go_meet
      case rel => exact ⟨N_set1 HN0.out i hil 1 (by decide) h0 h1 h2 h3 h4 h5 HFK1.out, (below_then HBB.out (Nat.le_trans hln HB0.out.size) (Below.refl _ _)).setCell (p := ⟨g, i * 6 + 1, none⟩) HGB.out _, blk_far HK0.out (p := ⟨g, i * 6 + 1, none⟩) (fun e => HGE.out.1 e.symm) _, blk_far HK1.out (p := ⟨g, i * 6 + 1, none⟩) (fun e => HGE.out.2 e.symm) _⟩
    clear h0 h1 h2 h3 h4 h5 hl5 hF5 hfr hf2 p0 p1 p2 p3 p4 p5 p6 pl q0 q1 q2 q3 ql q0f q1f q2f q3f hf1
    rename Aside0 _ => HA
    obtain ⟨A5, c5, h0, h1, h2, h3, h4, h5, hl5, hF5, hfr⟩ := atN HA.out.1 i (by omega)
    rw [rd_set l x1 hil, HX1.out] at h0 h1 h2 h3 h4 h5 hl5 hF5
    obtain ⟨p0, p1, p2, p3, p4, p5, p6, _, pl⟩ := seven_cells HA.out.2.2.1
    obtain ⟨q0, q1, q2, q3, _, ql⟩ := four_cells HA.out.2.2.2
    have q0f := blk_frozen HA.out.2.2.2 0
    have q1f := blk_frozen HA.out.2.2.2 1
    have q2f := blk_frozen HA.out.2.2.2 2
    have q3f := blk_frozen HA.out.2.2.2 3
    have hf2 := hfr 2
    have HFK2 := Lib.hid (show Kd.FK k54 wc (fun k => (base ≤ k ∧ k ≠ w.heap.size + 1) ∧ k ≠ g) x2 [.string x.f0, .string o.f2, .int .i64 (x.f2 + 1), .int .i64 x.f3, .string x.f4, .slice A5 x.f5.length c5] by rw [HX2.out]; exact k54_mkF _ _ ⟨x.f0, o.f2, x.f2 + 1, x.f3, x.f4, x.f5⟩ hl5 hF5)
    go_upto_region 6 with (fail)
    go_cut [52] (fun v52 W => Aside0 (Kd.N k54 54 W base (fun j => base ≤ j ∧ j ≠ w.heap.size + 1) (.slice (some ⟨g, 0, none⟩) l.length c) (l.set i x2) ∧ Below base w0 W ∧ W.heap[w.heap.size]? = some (.cells #[.int .i64 o.f0, .string o.f1, .string o.f2, .int .i64 o.f3, .string o.f4, .int .i64 o.f5, .string o.f6] 36 (0, 0)) ∧ W.heap[w.heap.size + 1]? = some (.cells #[.int .i64 0, .int .i64 0, .string ⟨#[]⟩, .slice none 0 0] 34 (0, 0))))
    case first =>
      go_wp2
      go_meet
      case rel => exact ⟨by have h := N_set1 HA.out.1 i hil 2 (by decide) h0 h1 h2 h3 h4 h5 HFK2.out; rw [List.set_set] at h; exact h, HA.out.2.1.setCell (p := ⟨g, i * 6 + 2, none⟩) HGB.out _, blk_far HA.out.2.2.1 (p := ⟨g, i * 6 + 2, none⟩) (fun e => HGE.out.1 e.symm) _, blk_far HA.out.2.2.2 (p := ⟨g, i * 6 + 2, none⟩) (fun e => HGE.out.2 e.symm) _⟩
    clear h0 h1 h2 h3 h4 h5 hl5 hF5 hfr hf2 p0 p1 p2 p3 p4 p5 p6 pl q0 q1 q2 q3 ql q0f q1f q2f q3f HA HFK1 HFK2
    rename Aside0 _ => HA
    obtain ⟨A5, c5, h0, h1, h2, h3, h4, h5, hl5, hF5, hfr⟩ := atN HA.out.1 i (by omega)
    rw [rd_set l x2 hil, HX2.out] at h0 h1 h2 h3 h4 h5 hl5 hF5
    obtain ⟨p0, p1, p2, p3, p4, p5, p6, _, pl⟩ := seven_cells HA.out.2.2.1
    obtain ⟨q0, q1, q2, q3, _, ql⟩ := four_cells HA.out.2.2.2
    have q0f := blk_frozen HA.out.2.2.2 0
    have q1f := blk_frozen HA.out.2.2.2 1
    have q2f := blk_frozen HA.out.2.2.2 2
    have q3f := blk_frozen HA.out.2.2.2 3
    have hf2 := hfr 2
    have HQ2 := Lib.hid (HQ.out.trans (by rw [HX2.out] : _ = (l.set i x2, ⟨0, x.f2 + 1, ⟨#[]⟩, []⟩)))
    clear HQ
    go_upto_region 7 with (fail)
    go_region
    all_goals
      go_wp2
      exact ret_TP Try.results35 rfl rfl rfl (put4_at HA.out.2.2.2) (HG.out _ _ _ _ _ _ HQ2.out (Kd.N_drew (N_only (put4_N HA.out.1))) (below_drew (put4_below HA.out.2.1 (by omega))))

end Go.Proofs.Ytadhfedbgeenlaa.H

/- The document's Do: a record taken out. -/
namespace Go.Proofs.Ytadhfedbgeenlaa.H
open Go.RowKit Go.Proofs.YtadhfedbgeenlaaW.PrintWords Go.Proofs.YtadhfedbgeenlaaW.PrintLast Go.Proofs.YtadhfedbgeenlaaW.PrintMore
set_option linter.unusedVariables false
set_option linter.unusedSimpArgs false

def fromRegion (n : Nat) : Code → Option Code
  | .seq (.region k o b) c => if k = n then some (.seq (.region k o b) c) else fromRegion n c
  | .seq a c => match fromRegion n a with
    | some x => some x
    | none => fromRegion n c
  | .block _ c => fromRegion n c
  | .loop c => fromRegion n c
  | .scope c => fromRegion n c
  | .cond _ a b => match fromRegion n a with
    | some x => some x
    | none => fromRegion n b
  | _ => none
def headC : Code → Code
  | .seq a _ => a
  | c => c
def tailC : Code → Code
  | .seq _ b => b
  | c => c
noncomputable def doHead (n : Nat) : Code := headC ((Try.f21.body.bind (fromRegion n)).getD .skip)

theorem info_rec_size : (Try.prog.info? 54).map (·.size) = some (k54).sz := by kernel_rfl

set_option maxHeartbeats 1000000 in
set_option maxRecDepth 1000000 in
theorem do_erase {W w0 : World} {base g g1 n cc i : Nat} {rev : Int} {l : List S54} {K1 K2 : Act → World → Prop} {R : Ending → World → Prop} {a0 b0 c0 d0 : Value} {sl0 sl1 sl2 sl3 sl4 sl7 sl10 sl11 sl12 sl13 sl14 sl15 sl16 sl17 sl18 sl19 sl20 sl21 sl22 sl23 sl24 sl25 sl26 sl27 sl28 sl29 sl30 sl31 sl32 sl33 sl34 sl35 sl36 sl37 sl38 sl39 sl40 sl41 sl42 sl43 sl44 sl45 sl46 sl47 sl48 sl49 sl50 sl51 sl52 sl53 sl54 sl55 sl56 sl57 sl58 sl59 sl60 sl61 sl62 sl63 sl64 sl65 sl66 sl67 sl68 sl69 sl70 sl71 sl72 sl73 sl74 sl75 sl76 sl77 sl78 sl79 sl80 sl81 sl82 sl83 sl84 sl85 sl86 sl87 sl88 sl89 sl90 sl91 sl92 sl93 sl94 sl95 sl96 sl97 sl98 sl99 sl100 sl101 sl102 sl103 sl104 sl105 sl106 sl107 sl108 sl109 sl110 sl111 sl112 sl113 sl114 sl115 sl116 sl117 sl118 sl119 sl120 sl121 sl122 sl123 sl124 sl125 sl126 sl127 sl128 sl129 sl130 sl131 sl132 sl133 sl134 : Value} (hN : Kd.N k54 54 W base (fun j => base ≤ j ∧ j ≠ g1) (.slice (some ⟨g, 0, none⟩) n cc) l) (hi : i < n) (hn : n ≤ 1000) (hB : Below base w0 W) (hbw : base ≤ W.heap.size) (h1 : W.heap[g1]? = some (.cells #[a0, b0, c0, d0] 34 (0, 0))) (hne : g ≠ g1)
    (hnext : ∀ W', Kd.N k54 54 W' base (fun j => base ≤ j ∧ j ≠ g1) (.slice (some ⟨g, 0, none⟩) (n - 1) cc) (l.eraseIdx i) → Below base w0 W' → W.grownBy W' (some g) → W'.heap[g1]? = some (.cells #[a0, b0, c0, d0] 34 (0, 0)) → ∀ (u96 u97 u98 u99 u100 u101 u102 u103 u104 u105 : Value), K1 ⟨List.toArray (sl0 :: sl1 :: sl2 :: sl3 :: (.slice (some ⟨g, 0, none⟩) (n - 1) cc : Value) :: (.pointer (some ⟨g1, 0, none⟩) : Value) :: (.slice (some ⟨g, 0, none⟩) n cc : Value) :: sl7 :: (.int .i64 i : Value) :: (.int .i64 rev : Value) :: sl10 :: sl11 :: sl12 :: sl13 :: sl14 :: sl15 :: sl16 :: sl17 :: sl18 :: sl19 :: sl20 :: sl21 :: sl22 :: sl23 :: sl24 :: sl25 :: sl26 :: sl27 :: sl28 :: sl29 :: sl30 :: sl31 :: sl32 :: sl33 :: sl34 :: sl35 :: sl36 :: sl37 :: sl38 :: sl39 :: sl40 :: sl41 :: sl42 :: sl43 :: sl44 :: sl45 :: sl46 :: sl47 :: sl48 :: sl49 :: sl50 :: sl51 :: sl52 :: sl53 :: sl54 :: sl55 :: sl56 :: sl57 :: sl58 :: sl59 :: sl60 :: sl61 :: sl62 :: sl63 :: sl64 :: sl65 :: sl66 :: sl67 :: sl68 :: sl69 :: sl70 :: sl71 :: sl72 :: sl73 :: sl74 :: sl75 :: sl76 :: sl77 :: sl78 :: sl79 :: sl80 :: sl81 :: sl82 :: sl83 :: sl84 :: sl85 :: sl86 :: sl87 :: sl88 :: sl89 :: sl90 :: sl91 :: sl92 :: sl93 :: sl94 :: sl95 :: u96 :: u97 :: u98 :: u99 :: u100 :: u101 :: u102 :: u103 :: u104 :: u105 :: sl106 :: sl107 :: sl108 :: sl109 :: sl110 :: sl111 :: sl112 :: sl113 :: sl114 :: sl115 :: sl116 :: sl117 :: sl118 :: sl119 :: sl120 :: sl121 :: sl122 :: sl123 :: sl124 :: sl125 :: sl126 :: sl127 :: sl128 :: sl129 :: sl130 :: sl131 :: sl132 :: sl133 :: sl134 :: []), []⟩ (put4 W' g1 (.int .i64 0) (.int .i64 rev) (.string ⟨#[]⟩) (.slice none 0 0))) :
    Code.wp Try.prog (doHead 22) (Exit.then K1 (Exit.inBlock 0 (Exit.then K2 (bodyPost Try.prog Try.f21 R)))) ⟨List.toArray (sl0 :: sl1 :: sl2 :: sl3 :: sl4 :: (.pointer (some ⟨g1, 0, none⟩) : Value) :: (.slice (some ⟨g, 0, none⟩) n cc : Value) :: sl7 :: (.int .i64 i : Value) :: (.int .i64 rev : Value) :: sl10 :: sl11 :: sl12 :: sl13 :: sl14 :: sl15 :: sl16 :: sl17 :: sl18 :: sl19 :: sl20 :: sl21 :: sl22 :: sl23 :: sl24 :: sl25 :: sl26 :: sl27 :: sl28 :: sl29 :: sl30 :: sl31 :: sl32 :: sl33 :: sl34 :: sl35 :: sl36 :: sl37 :: sl38 :: sl39 :: sl40 :: sl41 :: sl42 :: sl43 :: sl44 :: sl45 :: sl46 :: sl47 :: sl48 :: sl49 :: sl50 :: sl51 :: sl52 :: sl53 :: sl54 :: sl55 :: sl56 :: sl57 :: sl58 :: sl59 :: sl60 :: sl61 :: sl62 :: sl63 :: sl64 :: sl65 :: sl66 :: sl67 :: sl68 :: sl69 :: sl70 :: sl71 :: sl72 :: sl73 :: sl74 :: sl75 :: sl76 :: sl77 :: sl78 :: sl79 :: sl80 :: sl81 :: sl82 :: sl83 :: sl84 :: sl85 :: sl86 :: sl87 :: sl88 :: sl89 :: sl90 :: sl91 :: sl92 :: sl93 :: sl94 :: sl95 :: sl96 :: sl97 :: sl98 :: sl99 :: sl100 :: sl101 :: sl102 :: sl103 :: sl104 :: sl105 :: sl106 :: sl107 :: sl108 :: sl109 :: sl110 :: sl111 :: sl112 :: sl113 :: sl114 :: sl115 :: sl116 :: sl117 :: sl118 :: sl119 :: sl120 :: sl121 :: sl122 :: sl123 :: sl124 :: sl125 :: sl126 :: sl127 :: sl128 :: sl129 :: sl130 :: sl131 :: sl132 :: sl133 :: sl134 :: []), []⟩ W := by
  have hlc := (Kd.N_reads' hN).2.1
  have HEX := Lib.hid hnext
  have HN := Lib.hid hN
  have HB := Lib.hid hB
  have HBW := Lib.hid hbw
  have HK1 := Lib.hid h1
  have HNE := Lib.hid hne
  clear hnext hN hB hbw h1 hne
  have hic : i ≤ cc := by omega
  have hi1 : i + 1 ≤ n := by omega
  have hi2 : i + 1 ≤ cc := by omega
  have hw : IntKind.i64.wrap ((i : Int) + 1) = ((i + 1 : Nat) : Int) := by rw [IntWalk.i64_in _ ⟨by omega, by omega⟩]; omega
  have q0 := (blk_cell HK1.out 0).trans rfl
  obtain ⟨q0, q1, q2, q3, _, ql⟩ := four_cells HK1.out
  have q0f := blk_frozen HK1.out 0
  have q1f := blk_frozen HK1.out 1
  have q2f := blk_frozen HK1.out 2
  have q3f := blk_frozen HK1.out 3
  have hz1 : (0 : Int) ≤ (i : Int) + 1 := by omega
  have hz2 : (i : Int) + 1 ≤ n := by omega
  by_cases hcc : cc = i + 1
  · subst hcc
    have hz3 : (i : Int) ≤ (i : Int) + 1 := by omega
    have HA := Lib.hid (show some (⟨g, 0, none⟩ : Addr) = (if i + 1 = i + 1 then some (⟨g, 0, none⟩ : Addr) else (some (⟨g, 0, none⟩ : Addr)).map (·.add ((i + 1) * 6))) by rw [if_pos rfl])
    conv => arg 2; whnf
    go_region_law (refine Kd.N_delete_step k54 (w0 := w0) base (by rfl) (.tmp 98) (.tmp 102) 26 54 (by rfl) Try.underlying26 info_rec_size (g := g) (n := n) (c := i + 1) (k := i) (m := n - (i + 1)) (c2 := i + 1 - (i + 1)) (A := some (⟨g, 0, none⟩ : Addr)) ?e1 ?e2 HA.out (by rfl) (Kd.N_drew HN.out) hi (below_drew HB.out) HBW.out ?_; (case e1 => simp [Act.eval, Act.put]); (case e2 => (simp [Act.eval, Act.put] <;> omega)); intro w1 hn1 hb1 hg1; have HG1 := Lib.hid ((hg1.block _ (show g1 < W.drew.heap.size from blk_lt HK1.out) (fun e => HNE.out (by injection e with e; exact e.symm))).trans (show W.drew.heap[g1]? = _ from HK1.out)); have HN1 := Lib.hid hn1; have HB1 := Lib.hid hb1; have HGR := Lib.hid hg1; clear hn1 hb1 hg1 q0 q1 q2 q3 ql q0f q1f q2f q3f; obtain ⟨q0, q1, q2, q3, _, ql⟩ := four_cells HG1.out; have q0f := blk_frozen HG1.out 0; have q1f := blk_frozen HG1.out 1; have q2f := blk_frozen HG1.out 2; have q3f := blk_frozen HG1.out 3)
    all_goals
      go_wp2
      exact HEX.out _ HN1.out HB1.out ⟨HGR.out.os, HGR.out.tape, HGR.out.output, HGR.out.size, HGR.out.block⟩ HG1.out _ _ _ _ _ _ _ _ _ _
  have HA := Lib.hid (show some (⟨g, (i + 1) * 6, none⟩ : Addr) = (if cc = i + 1 then some (⟨g, 0, none⟩ : Addr) else (some (⟨g, 0, none⟩ : Addr)).map (·.add ((i + 1) * 6))) by rw [if_neg hcc, Option.map_some, Addr.add_lit, Nat.zero_add])
  conv => arg 2; whnf
  go_region_law (refine Kd.N_delete_step k54 (w0 := w0) base (by rfl) (.tmp 98) (.tmp 102) 26 54 (by rfl) Try.underlying26 info_rec_size (g := g) (n := n) (c := cc) (k := i) (m := n - (i + 1)) (c2 := cc - (i + 1)) (A := some (⟨g, (i + 1) * 6, none⟩ : Addr)) ?e1 ?e2 HA.out (by rfl) (Kd.N_drew HN.out) hi (below_drew HB.out) HBW.out ?_; (case e1 => simp [Act.eval, Act.put]); (case e2 => (simp [Act.eval, Act.put] <;> omega)); intro w1 hn1 hb1 hg1; have HG1 := Lib.hid ((hg1.block _ (show g1 < W.drew.heap.size from blk_lt HK1.out) (fun e => HNE.out (by injection e with e; exact e.symm))).trans (show W.drew.heap[g1]? = _ from HK1.out)); have HN1 := Lib.hid hn1; have HB1 := Lib.hid hb1; have HGR := Lib.hid hg1; clear hn1 hb1 hg1 q0 q1 q2 q3 ql q0f q1f q2f q3f; obtain ⟨q0, q1, q2, q3, _, ql⟩ := four_cells HG1.out; have q0f := blk_frozen HG1.out 0; have q1f := blk_frozen HG1.out 1; have q2f := blk_frozen HG1.out 2; have q3f := blk_frozen HG1.out 3)
  all_goals
    go_wp2
    exact HEX.out _ HN1.out HB1.out ⟨HGR.out.os, HGR.out.tape, HGR.out.output, HGR.out.size, HGR.out.block⟩ HG1.out _ _ _ _ _ _ _ _ _ _

end Go.Proofs.Ytadhfedbgeenlaa.H

/- The document's Do. -/
namespace Go.Proofs.Ytadhfedbgeenlaa.H
open Go.RowKit Go.Proofs.YtadhfedbgeenlaaW.PrintWords Go.Proofs.YtadhfedbgeenlaaW.PrintLast Go.Proofs.YtadhfedbgeenlaaW.PrintMore
set_option linter.unusedVariables false
set_option linter.unusedSimpArgs false

def revK (l : List S54) : Option Nat → Int
  | none => 0
  | some i => (rd_T54 l i).f2
/-- What is left to be done when the key's record is there. -/
def doS (l : List S54) (i : Nat) (o : S36) : List S54 × S34 :=
  if o.f0 = 1 then (l, ⟨0, (rd_T54 l i).f2, (rd_T54 l i).f1, []⟩)
  else if o.f0 = 3 then (l.eraseIdx i, ⟨0, (rd_T54 l i).f2, ⟨#[]⟩, []⟩)
  else if (rd_T54 l i).f2 = 9007199254740992 then (l, ⟨50, 0, ⟨#[]⟩, []⟩)
  else (l.set i ⟨(rd_T54 l i).f0, (rd_T54 l i).f1, (rd_T54 l i).f2 + 1, o.f5, o.f6, (rd_T54 l i).f5⟩, ⟨0, (rd_T54 l i).f2 + 1, ⟨#[]⟩, []⟩)
def doK (l : List S54) (k : Option Nat) (o : S36) : List S54 × S34 :=
  if o.f0 = 6 then (l, ⟨0, 0, ⟨#[]⟩, scanD l o.f1 o.f4⟩)
  else if o.f0 = 2 then putT l k o
  else if o.f0 = 4 then (if revK l k = o.f3 then putT l k o else (l, ⟨71, revK l k, ⟨#[]⟩, []⟩))
  else match k with
    | none => (l, ⟨70, 0, ⟨#[]⟩, []⟩)
    | some i => doS l i o
/-- What an op does to a table, and is replied. -/
def doT (l : List S54) (o : S36) : List S54 × S34 :=
  if tabOk l = true ∧ checkE o = 0 then doK l (posK l o.f1) o else (l, ⟨1, 0, ⟨#[]⟩, []⟩)
theorem pair_eta {p : List S54 × S34} (h : p.2.f3 = []) : p = (p.1, ⟨p.2.f0, p.2.f1, p.2.f2, []⟩) := by
  obtain ⟨a, b⟩ := p
  cases b
  simp only at h
  rw [h]
def GotD (w : World) (r : List S54 × S34) (e : Ending) (w' : World) : Prop :=
  ∃ A c v, e = .returned (.tuple #[.slice A r.1.length c, .agg #[.int .i64 r.2.f0, .int .i64 r.2.f1, .string r.2.f2, v]]) ∧ NB w' w.heap.size (.slice A r.1.length c) r.1 ∧ Kd.R Kd.string 9 w' w.heap.size (fun _ => True) v r.2.f3 ∧ Below w.heap.size w w'
theorem gotD_mk {w W : World} {n g : Nat} {l : List S54} {a b : Int} {s : ByteArray} {ks : List ByteArray} {v u a0 b0 c0 d0 : Value} {r : List S54 × S34} (hr : r = (l, ⟨a, b, s, ks⟩)) (hn : g < n) (hg : w.heap.size ≤ g) (hh : W.heap[g]? = some (.cells #[a0, b0, c0, d0] 34 (0, 0))) (hN : NB W n v l) (hR : Kd.R Kd.string 9 W w.heap.size (fun _ => True) u ks) (hb : Below w.heap.size w W) :
    GotD w r (.returned (.tuple #[v, .agg #[.int .i64 a, .int .i64 b, .string s, u]])) (put4 W g (.int .i64 a) (.int .i64 b) (.string s) u) := by
  subst hr
  obtain ⟨A, c, rfl⟩ := Kd.N_slice hN
  have h0 := blk_put hh 0 (.int .i64 a) rfl
  have h1 := blk_put h0 1 (.int .i64 b) rfl
  have h2 := blk_put h1 2 (.string s) rfl
  exact ⟨A, c, u, rfl, Kd.N_mono (Kd.N_lower (put4_N (Kd.N_mono hN (fun k hk => ⟨hk, by omega⟩) : Kd.N k54 54 W n (fun k => n ≤ k ∧ k ≠ g) _ _)) (by omega)) (fun k hk => by omega), Kd.R_set (Kd.R_set (Kd.R_set (Kd.R_set hR hh (by decide) 0 _) h0 (by decide) 1 _) h1 (by decide) 2 _) h2 (by decide) 3 _, put4_below hb hg⟩
theorem gotD_drew {w W : World} {e : Ending} {r : List S54 × S34} (h : GotD w r e W) : GotD w r e W.drew := by
  obtain ⟨A, c, v, h1, h2, h3, h4⟩ := h
  exact ⟨A, c, v, h1, Kd.N_drew h2, Kd.R_move h3 (fun _ _ => rfl), below_drew h4⟩
theorem pos_lt : ∀ {l : List S54} {key : ByteArray} {m i : Nat}, posGo l key m = some i → m ≤ i ∧ i < m + l.length
  | [], _, _, _, h => by cases h
  | x :: xs, key, m, i, h => by
    rw [posGo] at h
    split at h
    · injection h with h
      subst h
      exact ⟨Nat.le_refl _, by simp⟩
    · have h2 := pos_lt h
      rw [List.length_cons]
      omega
theorem tGo_rec : ∀ {l : List S54} {last : ByteArray}, tGo l last = true → ∀ x ∈ l, recOk 2 x = true
  | [], _, _, x, hx => by cases hx
  | y :: ys, last, h, x, hx => by
    rw [tGo] at h
    split at h
    · cases h
    · rename_i hc
      rcases List.mem_cons.1 hx with rfl | hx
      · cases hr : recOk 2 x
        · exact absurd (Or.inl hr) hc
        · rfl
      · exact tGo_rec h x hx
theorem recOk_rev {v : Int} {x : S54} (h : recOk v x = true) : 0 ≤ x.f2 ∧ x.f2 ≤ 9007199254740992 := by
  by_cases hn : noRec v x
  · rw [recOk_no hn] at h; cases h
  · constructor
    · exact Int.not_lt.1 (fun h2 => hn (Or.inr (Or.inr (Or.inr (Or.inr (Or.inl h2))))))
    · exact Int.not_lt.1 (fun h2 => hn (Or.inr (Or.inr (Or.inr (Or.inr (Or.inr (Or.inl h2)))))))
theorem tabOk_rev {l : List S54} (h : tabOk l = true) {i : Nat} (hi : i < l.length) : 0 ≤ (rd_T54 l i).f2 ∧ (rd_T54 l i).f2 ≤ 9007199254740992 := by
  unfold tabOk at h
  rw [Bool.and_eq_true] at h
  exact recOk_rev (tGo_rec h.1 _ (rd_mem hi))
theorem tabOk_len {l : List S54} (h : tabOk l = true) : l.length ≤ 20 := by
  unfold tabOk at h
  rw [Bool.and_eq_true, decide_eq_true_eq] at h
  exact h.2
theorem checkE_01 (o : S36) : checkE o = 0 ∨ checkE o = 1 := by
  unfold checkE
  split
  · exact Or.inr rfl
  · exact Or.inl rfl
theorem checkE_kind {o : S36} (h : checkE o = 0) : 1 ≤ o.f0 ∧ o.f0 ≤ 6 := by
  by_cases hb : badOp o
  · rw [checkE_no hb] at h; cases h
  · exact ⟨Int.not_lt.1 (fun h2 => hb (Or.inl h2)), Int.not_lt.1 (fun h2 => hb (Or.inr (Or.inl h2)))⟩

set_option maxHeartbeats 8000000 in
set_option maxRecDepth 100000 in
theorem do2_calls (A : Option Addr) (c : Nat) (l : List S54) (o : S36) (w : World) (hr : Kd.C k54 w A l.length l) (hp : PlainT l) (hlen : l.length ≤ 1000) :
    Calls Try.prog 21 #[.slice A l.length c, .agg #[.int .i64 o.f0, .string o.f1, .string o.f2, .int .i64 o.f3, .string o.f4, .int .i64 o.f5, .string o.f6]] w (GotD w (doT l o)) := by
  obtain ⟨r, hr0⟩ : ∃ r, r = doT l o := ⟨_, rfl⟩
  have HD := Lib.hid hr0
  rw [← hr0]
  clear hr0
  generalize hW0 : (w.alloc (.cells #[.int .i64 o.f0, .string o.f1, .string o.f2, .int .i64 o.f3, .string o.f4, .int .i64 o.f5, .string o.f6] 36)).alloc (.cells #[.int .i64 0, .int .i64 0, .string ⟨#[]⟩, .slice none 0 0] 34) = W0
  have HB00 := Lib.hid (show Below w.heap.size w W0 by rw [← hW0]; exact below_alloc (below_alloc (Below.refl _ _) _) _)
  have HK0 := Lib.hid (show W0.heap[w.heap.size]? = some (.cells #[.int .i64 o.f0, .string o.f1, .string o.f2, .int .i64 o.f3, .string o.f4, .int .i64 o.f5, .string o.f6] 36 (0, 0)) by rw [← hW0]; exact alloc_on (new_at rfl _) _)
  have HK1 := Lib.hid (show W0.heap[w.heap.size + 1]? = some (.cells #[.int .i64 0, .int .i64 0, .string ⟨#[]⟩, .slice none 0 0] 34 (0, 0)) by rw [← hW0]; exact new_at (by simp) _)
  have HK10 := Lib.hid HK1.out
  have HK00 := Lib.hid HK0.out
  have HSZ := Lib.hid (show w.heap.size + 1 < W0.heap.size by rw [← hW0]; simp)
  have HW0 := Lib.hid hW0; clear hW0
  have HRR := Lib.hid hr
  have HBW := Lib.hid (show Below w.heap.size w W0 from HB00.out)
  have HOW := Lib.hid (own2_calls A c l W0 (Kd.C_below hr HB00.out) hp hlen)
  clear hr hp
  obtain ⟨p0, p1, p2, p3, p4, p5, p6, _, pl⟩ := seven_cells HK0.out
  obtain ⟨q0, q1, q2, q3, _, ql⟩ := four_cells HK1.out
  have q0f := blk_frozen HK1.out 0
  have q1f := blk_frozen HK1.out 1
  have q2f := blk_frozen HK1.out 2
  have q3f := blk_frozen HK1.out 3
  go_enter Try.func21, Try.ntmps21
  go_upto_region 1 with (fail)
  rw [HW0.out]
  clear HW0
  go_wp2_with fail
  refine HOW.out.mono ?_
  rintro e W1 ⟨v, rfl, hn, hb1⟩
  clear HOW
  obtain ⟨A1, c1, rfl⟩ := Kd.N_slice hn
  have HN := Lib.hid (show NB W1 W0.heap.size (.slice A1 l.length c1) l from hn)
  have HB0 := Lib.hid hb1
  replace HK0 := Lib.hid (kept_on hb1 HK0.out)
  replace HK1 := Lib.hid (kept_on hb1 HK1.out)
  replace HBW := Lib.hid (below_then HBW.out HBW.out.size hb1)
  clear p0 p1 p2 p3 p4 p5 p6 pl q0 q1 q2 q3 ql q0f q1f q2f q3f hb1 hn
  obtain ⟨p0, p1, p2, p3, p4, p5, p6, _, pl⟩ := seven_cells HK0.out
  obtain ⟨q0, q1, q2, q3, _, ql⟩ := four_cells HK1.out
  have q0f := blk_frozen HK1.out 0
  have q1f := blk_frozen HK1.out 1
  have q2f := blk_frozen HK1.out 2
  have q3f := blk_frozen HK1.out 3
  have HTR := Lib.hid (tab2Right_calls A c l W1 (Kd.C_below HRR.out HBW.out))
  cases hto : tabOk l
  · rw [hto] at HTR
    have HQ := Lib.hid (HD.out.trans (if_neg (by rw [hto]; intro h; cases h.1)))
    clear HD hto
    go_wp2_with fail
    refine HTR.out.mono ?_
    rintro e W2 ⟨rfl, hb2⟩
    replace HK0 := Lib.hid (kept_on hb2 HK0.out)
    replace HK1 := Lib.hid (kept_on hb2 HK1.out)
    replace HBW := Lib.hid (below_then HBW.out HBW.out.size hb2)
    replace HB0 := Lib.hid (below_then HB0.out HB0.out.size hb2)
    replace HN := Lib.hid (Kd.N_below HN.out hb2)
    clear p0 p1 p2 p3 p4 p5 p6 pl q0 q1 q2 q3 ql q0f q1f q2f q3f hb2
    obtain ⟨p0, p1, p2, p3, p4, p5, p6, _, pl⟩ := seven_cells HK0.out
    obtain ⟨q0, q1, q2, q3, _, ql⟩ := four_cells HK1.out
    have q0f := blk_frozen HK1.out 0
    have q1f := blk_frozen HK1.out 1
    have q2f := blk_frozen HK1.out 2
    have q3f := blk_frozen HK1.out 3
    have HF := Lib.hid (fault2_calls 1 W2)
    go_wp2_with fail
    refine HF.out.mono ?_
    rintro e W3 ⟨rfl, hb3⟩
    replace HK0 := Lib.hid (kept_on hb3 HK0.out)
    replace HK1 := Lib.hid (kept_on hb3 HK1.out)
    replace HBW := Lib.hid (below_then HBW.out HBW.out.size hb3)
    replace HB0 := Lib.hid (below_then HB0.out HB0.out.size hb3)
    replace HN := Lib.hid (Kd.N_below HN.out hb3)
    clear p0 p1 p2 p3 p4 p5 p6 pl q0 q1 q2 q3 ql q0f q1f q2f q3f hb3
    obtain ⟨p0, p1, p2, p3, p4, p5, p6, _, pl⟩ := seven_cells HK0.out
    obtain ⟨q0, q1, q2, q3, _, ql⟩ := four_cells HK1.out
    have q0f := blk_frozen HK1.out 0
    have q1f := blk_frozen HK1.out 1
    have q2f := blk_frozen HK1.out 2
    have q3f := blk_frozen HK1.out 3
    go_wp2
    exact ret_TP Try.results21 rfl rfl rfl (put4_at HK1.out) (gotD_mk HQ.out HSZ.out (by omega) HK1.out HN.out (Kd.R_nil _ _ _ _ _) HBW.out)
  rw [hto] at HTR
  have HTO := Lib.hid hto; clear hto
  go_wp2_with fail
  refine HTR.out.mono ?_
  rintro e W2 ⟨rfl, hb2⟩
  replace HK0 := Lib.hid (kept_on hb2 HK0.out)
  replace HK1 := Lib.hid (kept_on hb2 HK1.out)
  replace HBW := Lib.hid (below_then HBW.out HBW.out.size hb2)
  replace HB0 := Lib.hid (below_then HB0.out HB0.out.size hb2)
  replace HN := Lib.hid (Kd.N_below HN.out hb2)
  clear p0 p1 p2 p3 p4 p5 p6 pl q0 q1 q2 q3 ql q0f q1f q2f q3f hb2
  obtain ⟨p0, p1, p2, p3, p4, p5, p6, _, pl⟩ := seven_cells HK0.out
  obtain ⟨q0, q1, q2, q3, _, ql⟩ := four_cells HK1.out
  have q0f := blk_frozen HK1.out 0
  have q1f := blk_frozen HK1.out 1
  have q2f := blk_frozen HK1.out 2
  have q3f := blk_frozen HK1.out 3
  have HCH := Lib.hid (check2_calls o W2)
  clear HTR
  rcases checkE_01 o with hce | hce
  rotate_left
  · rw [hce] at HCH
    have HQ := Lib.hid (HD.out.trans (if_neg (by rw [hce]; intro h; cases h.2)))
    clear HD hce
    go_wp2_with fail
    refine HCH.out.mono ?_
    rintro e W3 ⟨rfl, hb3⟩
    replace HK0 := Lib.hid (kept_on hb3 HK0.out)
    replace HK1 := Lib.hid (kept_on hb3 HK1.out)
    replace HBW := Lib.hid (below_then HBW.out HBW.out.size hb3)
    replace HB0 := Lib.hid (below_then HB0.out HB0.out.size hb3)
    replace HN := Lib.hid (Kd.N_below HN.out hb3)
    clear p0 p1 p2 p3 p4 p5 p6 pl q0 q1 q2 q3 ql q0f q1f q2f q3f hb3
    obtain ⟨p0, p1, p2, p3, p4, p5, p6, _, pl⟩ := seven_cells HK0.out
    obtain ⟨q0, q1, q2, q3, _, ql⟩ := four_cells HK1.out
    have q0f := blk_frozen HK1.out 0
    have q1f := blk_frozen HK1.out 1
    have q2f := blk_frozen HK1.out 2
    have q3f := blk_frozen HK1.out 3
    have HF := Lib.hid (fault2_calls 1 W3)
    go_wp2_with fail
    refine HF.out.mono ?_
    rintro e W4 ⟨rfl, hb4⟩
    replace HK0 := Lib.hid (kept_on hb4 HK0.out)
    replace HK1 := Lib.hid (kept_on hb4 HK1.out)
    replace HBW := Lib.hid (below_then HBW.out HBW.out.size hb4)
    replace HB0 := Lib.hid (below_then HB0.out HB0.out.size hb4)
    replace HN := Lib.hid (Kd.N_below HN.out hb4)
    clear p0 p1 p2 p3 p4 p5 p6 pl q0 q1 q2 q3 ql q0f q1f q2f q3f hb4
    obtain ⟨p0, p1, p2, p3, p4, p5, p6, _, pl⟩ := seven_cells HK0.out
    obtain ⟨q0, q1, q2, q3, _, ql⟩ := four_cells HK1.out
    have q0f := blk_frozen HK1.out 0
    have q1f := blk_frozen HK1.out 1
    have q2f := blk_frozen HK1.out 2
    have q3f := blk_frozen HK1.out 3
    go_wp2
    exact ret_TP Try.results21 rfl rfl rfl (put4_at HK1.out) (gotD_mk HQ.out HSZ.out (by omega) HK1.out HN.out (Kd.R_nil _ _ _ _ _) HBW.out)
  rw [hce] at HCH
  have HCE := Lib.hid (checkE_kind hce)
  have HQ := Lib.hid (HD.out.trans (if_pos ⟨HTO.out, hce⟩))
  clear HD hce
  go_wp2_with fail
  refine HCH.out.mono ?_
  rintro e W3 ⟨rfl, hb3⟩
  replace HK0 := Lib.hid (kept_on hb3 HK0.out)
  replace HK1 := Lib.hid (kept_on hb3 HK1.out)
  replace HBW := Lib.hid (below_then HBW.out HBW.out.size hb3)
  replace HB0 := Lib.hid (below_then HB0.out HB0.out.size hb3)
  replace HN := Lib.hid (Kd.N_below HN.out hb3)
  clear p0 p1 p2 p3 p4 p5 p6 pl q0 q1 q2 q3 ql q0f q1f q2f q3f hb3
  obtain ⟨p0, p1, p2, p3, p4, p5, p6, _, pl⟩ := seven_cells HK0.out
  obtain ⟨q0, q1, q2, q3, _, ql⟩ := four_cells HK1.out
  have q0f := blk_frozen HK1.out 0
  have q1f := blk_frozen HK1.out 1
  have q2f := blk_frozen HK1.out 2
  have q3f := blk_frozen HK1.out 3
  clear HCH HRR
  have HAT := Lib.hid (at2_calls A1 c1 l o.f1 W3 (Kd.N_reads' HN.out).2.2)
  have HKX := Lib.hid (show ∀ i, posK l o.f1 = some i → i < l.length from fun i hi => by have := pos_lt hi; omega)
  generalize posK l o.f1 = k at *
  go_wp2_with fail
  refine HAT.out.mono ?_
  rintro e W4 ⟨rfl, rfl⟩
  clear HAT
  cases k with
  | none =>
    rw [show posI none = -1 from rfl]
    by_cases hkn : o.f0 = 6
    · have HQ2 := Lib.hid (HQ.out.trans (show doK l none o = (l, ⟨0, 0, ⟨#[]⟩, scanD l o.f1 o.f4⟩) from if_pos hkn))
      have HKN := Lib.hid hkn; clear hkn
      have e6 : (o.f0 == 6) = true := by rw [HKN.out]; rfl
      have e2 : (o.f0 == 2) = false := by rw [HKN.out]; rfl
      have e4 : (o.f0 == 4) = false := by rw [HKN.out]; rfl
      have e1 : (o.f0 == 1) = false := by rw [HKN.out]; rfl
      have e3 : (o.f0 == 3) = false := by rw [HKN.out]; rfl
      have HS := Lib.hid (scan2_calls _ c1 l o W3 (Kd.N_reads' HN.out).2.2)
      clear HQ
      go_wp2_with fail
      refine HS.out.mono ?_
      rintro e W4 ⟨vs, rfl, hrs, hb4⟩
      obtain ⟨A9, c9, rfl⟩ := Kd.R_slice hrs
      have HRS := Lib.hid (Kd.R_lower hrs HBW.out.size)
      clear hrs HS
      replace HK0 := Lib.hid (kept_on hb4 HK0.out)
      replace HK1 := Lib.hid (kept_on hb4 HK1.out)
      replace HBW := Lib.hid (below_then HBW.out HBW.out.size hb4)
      replace HB0 := Lib.hid (below_then HB0.out HB0.out.size hb4)
      replace HN := Lib.hid (Kd.N_below HN.out hb4)
      clear p0 p1 p2 p3 p4 p5 p6 pl q0 q1 q2 q3 ql q0f q1f q2f q3f hb4
      obtain ⟨p0, p1, p2, p3, p4, p5, p6, _, pl⟩ := seven_cells HK0.out
      obtain ⟨q0, q1, q2, q3, _, ql⟩ := four_cells HK1.out
      have q0f := blk_frozen HK1.out 0
      have q1f := blk_frozen HK1.out 1
      have q2f := blk_frozen HK1.out 2
      have q3f := blk_frozen HK1.out 3
      go_wp2
      exact ret_TP Try.results21 rfl rfl rfl (put4_at HK1.out) (gotD_mk HQ2.out HSZ.out (by omega) HK1.out HN.out (HRS.out) HBW.out)
    have hk6 := hkn
    clear hkn
    by_cases hkn : o.f0 = 2
    · have HQ2 := Lib.hid (HQ.out.trans (show doK l none o = putT l none o by unfold doK; rw [if_neg hk6, if_pos hkn]))
      have HKN := Lib.hid hkn; clear hkn
      have e6 : (o.f0 == 6) = false := by rw [HKN.out]; rfl
      have e2 : (o.f0 == 2) = true := by rw [HKN.out]; rfl
      have e4 : (o.f0 == 4) = false := by rw [HKN.out]; rfl
      have e1 : (o.f0 == 1) = false := by rw [HKN.out]; rfl
      have e3 : (o.f0 == 3) = false := by rw [HKN.out]; rfl
      clear HQ hk6
      have HPU := Lib.hid (put2_calls W0.heap.size W0 _ l none o W3 HN.out HB0.out HB0.out.size hlen (fun i hi => by have h := HKX.out i hi; have h2 := tabOk_rev HTO.out h; exact ⟨h, by omega, h2.2⟩))
      go_wp2_with fail
      refine HPU.out.mono ?_
      rintro e W4 ⟨A2, c2, rfl, hn4, hb4, hks⟩
      replace HK0 := Lib.hid (kept_on hb4 HK00.out)
      replace HK1 := Lib.hid (kept_on hb4 HK10.out)
      replace HBW := Lib.hid (below_then HB00.out HB00.out.size hb4)
      have HN4 := Lib.hid hn4
      have HEQ := Lib.hid (HQ2.out.trans (pair_eta hks))
      clear p0 p1 p2 p3 p4 p5 p6 pl q0 q1 q2 q3 ql q0f q1f q2f q3f hb4 hn4 hks HPU HN
      obtain ⟨q0, q1, q2, q3, _, ql⟩ := four_cells HK1.out
      have q0f := blk_frozen HK1.out 0
      have q1f := blk_frozen HK1.out 1
      have q2f := blk_frozen HK1.out 2
      have q3f := blk_frozen HK1.out 3
      go_wp2
      exact ret_TP Try.results21 rfl rfl rfl (put4_at HK1.out) (gotD_mk HEQ.out HSZ.out (by omega) HK1.out HN4.out (Kd.R_nil _ _ _ _ _) HBW.out)
    have hk2 := hkn
    clear hkn
    by_cases hkn : o.f0 = 4
    · by_cases hrv : (0 : Int) = o.f3
      · have HQ2 := Lib.hid (HQ.out.trans (show doK l none o = putT l none o by unfold doK; rw [if_neg hk6, if_neg hk2, if_pos hkn, if_pos (show revK l none = o.f3 from hrv)]))
        have HKN := Lib.hid hkn; clear hkn
        have e6 : (o.f0 == 6) = false := by rw [HKN.out]; rfl
        have e2 : (o.f0 == 2) = false := by rw [HKN.out]; rfl
        have e4 : (o.f0 == 4) = true := by rw [HKN.out]; rfl
        have e1 : (o.f0 == 1) = false := by rw [HKN.out]; rfl
        have e3 : (o.f0 == 3) = false := by rw [HKN.out]; rfl
        have qrv : ((0 : Int) != o.f3) = false := by simp [hrv]
        have HRV := Lib.hid hrv; clear hrv
        clear HQ hk6 hk2
        have HPU := Lib.hid (put2_calls W0.heap.size W0 _ l none o W3 HN.out HB0.out HB0.out.size hlen (fun i hi => by have h := HKX.out i hi; have h2 := tabOk_rev HTO.out h; exact ⟨h, by omega, h2.2⟩))
        go_wp2_with fail
        refine HPU.out.mono ?_
        rintro e W4 ⟨A2, c2, rfl, hn4, hb4, hks⟩
        replace HK0 := Lib.hid (kept_on hb4 HK00.out)
        replace HK1 := Lib.hid (kept_on hb4 HK10.out)
        replace HBW := Lib.hid (below_then HB00.out HB00.out.size hb4)
        have HN4 := Lib.hid hn4
        have HEQ := Lib.hid (HQ2.out.trans (pair_eta hks))
        clear p0 p1 p2 p3 p4 p5 p6 pl q0 q1 q2 q3 ql q0f q1f q2f q3f hb4 hn4 hks HPU HN
        obtain ⟨q0, q1, q2, q3, _, ql⟩ := four_cells HK1.out
        have q0f := blk_frozen HK1.out 0
        have q1f := blk_frozen HK1.out 1
        have q2f := blk_frozen HK1.out 2
        have q3f := blk_frozen HK1.out 3
        go_wp2
        exact ret_TP Try.results21 rfl rfl rfl (put4_at HK1.out) (gotD_mk HEQ.out HSZ.out (by omega) HK1.out HN4.out (Kd.R_nil _ _ _ _ _) HBW.out)
      have HQ2 := Lib.hid (HQ.out.trans (show doK l none o = (l, ⟨71, (0 : Int), ⟨#[]⟩, []⟩) by unfold doK; rw [if_neg hk6, if_neg hk2, if_pos hkn, if_neg (show ¬ revK l none = o.f3 from hrv)]; rfl))
      have HKN := Lib.hid hkn; clear hkn
      have e6 : (o.f0 == 6) = false := by rw [HKN.out]; rfl
      have e2 : (o.f0 == 2) = false := by rw [HKN.out]; rfl
      have e4 : (o.f0 == 4) = true := by rw [HKN.out]; rfl
      have e1 : (o.f0 == 1) = false := by rw [HKN.out]; rfl
      have e3 : (o.f0 == 3) = false := by rw [HKN.out]; rfl
      have qrv : ((0 : Int) != o.f3) = true := by simpa using hrv
      clear HQ hk6 hk2 hrv
      go_wp2
      exact ret_TP Try.results21 rfl rfl rfl (put4_at HK1.out) (gotD_mk HQ2.out HSZ.out (by omega) HK1.out HN.out (Kd.R_nil _ _ _ _ _) HBW.out)
    have hk4 := hkn
    clear hkn
    have HQ2 := Lib.hid (HQ.out.trans (show doK l none o = (l, ⟨70, 0, ⟨#[]⟩, []⟩) by unfold doK; rw [if_neg hk6, if_neg hk2, if_neg hk4]))
    have e6 : (o.f0 == 6) = false := by simpa using hk6
    have e2 : (o.f0 == 2) = false := by simpa using hk2
    have e4 : (o.f0 == 4) = false := by simpa using hk4
    clear HQ hk6 hk2 hk4
    have HF := Lib.hid (fault2_calls 70 W3)
    go_wp2_with fail
    refine HF.out.mono ?_
    rintro e W4 ⟨rfl, hb4⟩
    replace HK0 := Lib.hid (kept_on hb4 HK0.out)
    replace HK1 := Lib.hid (kept_on hb4 HK1.out)
    replace HBW := Lib.hid (below_then HBW.out HBW.out.size hb4)
    replace HB0 := Lib.hid (below_then HB0.out HB0.out.size hb4)
    replace HN := Lib.hid (Kd.N_below HN.out hb4)
    clear p0 p1 p2 p3 p4 p5 p6 pl q0 q1 q2 q3 ql q0f q1f q2f q3f hb4
    obtain ⟨p0, p1, p2, p3, p4, p5, p6, _, pl⟩ := seven_cells HK0.out
    obtain ⟨q0, q1, q2, q3, _, ql⟩ := four_cells HK1.out
    have q0f := blk_frozen HK1.out 0
    have q1f := blk_frozen HK1.out 1
    have q2f := blk_frozen HK1.out 2
    have q3f := blk_frozen HK1.out 3
    go_wp2
    exact ret_TP Try.results21 rfl rfl rfl (put4_at HK1.out) (gotD_mk HQ2.out HSZ.out (by omega) HK1.out HN.out (Kd.R_nil _ _ _ _ _) HBW.out)
  | some i =>
    have hil := HKX.out i rfl
    have hrevs := tabOk_rev HTO.out hil
    rw [show posI (some i) = (i : Int) from rfl]
    obtain ⟨g, cap, he, hgb, hgl, cells, hcells⟩ := Kd.N_form HN.out (by omega)
    injection he with he1 _ he3
    subst he1; subst he3
    have hg0 : g ≠ w.heap.size := by have := HSZ.out; omega
    have hg1 : g ≠ w.heap.size + 1 := by have := HSZ.out; omega
    have HGE := Lib.hid (And.intro hg0 (And.intro hg1 hgb))
    clear hg0 hg1 hcells hgb hgl
    obtain ⟨A5, c5, h0, h1, h2, h3, h4, h5, hl5, hF5, hfr⟩ := atN HN.out i hil
    have HXR := Lib.hid (show revK l (some i) = (rd_T54 l i).f2 from rfl)
    have HDS := Lib.hid (show doS l i o = if o.f0 = 1 then (l, ⟨0, (rd_T54 l i).f2, (rd_T54 l i).f1, []⟩)
      else if o.f0 = 3 then (l.eraseIdx i, ⟨0, (rd_T54 l i).f2, ⟨#[]⟩, []⟩)
      else if (rd_T54 l i).f2 = 9007199254740992 then (l, ⟨50, 0, ⟨#[]⟩, []⟩)
      else (l.set i ⟨(rd_T54 l i).f0, (rd_T54 l i).f1, (rd_T54 l i).f2 + 1, o.f5, o.f6, (rd_T54 l i).f5⟩, ⟨0, (rd_T54 l i).f2 + 1, ⟨#[]⟩, []⟩) from rfl)
    generalize rd_T54 l i = x at *
    have b1 : (0 : Int) ≤ i := by omega
    have b2 : (i : Int) < l.length := by omega
    have b3 : ¬ (i : Int) < 0 := by omega
    by_cases hkn : o.f0 = 6
    · have HQ2 := Lib.hid (HQ.out.trans (show doK l (some i) o = (l, ⟨0, 0, ⟨#[]⟩, scanD l o.f1 o.f4⟩) from if_pos hkn))
      have HKN := Lib.hid hkn; clear hkn
      have e6 : (o.f0 == 6) = true := by rw [HKN.out]; rfl
      have e2 : (o.f0 == 2) = false := by rw [HKN.out]; rfl
      have e4 : (o.f0 == 4) = false := by rw [HKN.out]; rfl
      have e1 : (o.f0 == 1) = false := by rw [HKN.out]; rfl
      have e3 : (o.f0 == 3) = false := by rw [HKN.out]; rfl
      have HS := Lib.hid (scan2_calls _ c1 l o W3 (Kd.N_reads' HN.out).2.2)
      clear HQ
      go_wp2_with fail
      refine HS.out.mono ?_
      rintro e W4 ⟨vs, rfl, hrs, hb4⟩
      obtain ⟨A9, c9, rfl⟩ := Kd.R_slice hrs
      have HRS := Lib.hid (Kd.R_lower hrs HBW.out.size)
      clear hrs HS
      replace HK0 := Lib.hid (kept_on hb4 HK0.out)
      replace HK1 := Lib.hid (kept_on hb4 HK1.out)
      replace HBW := Lib.hid (below_then HBW.out HBW.out.size hb4)
      replace HB0 := Lib.hid (below_then HB0.out HB0.out.size hb4)
      replace HN := Lib.hid (Kd.N_below HN.out hb4)
      clear p0 p1 p2 p3 p4 p5 p6 pl q0 q1 q2 q3 ql q0f q1f q2f q3f hb4
      obtain ⟨p0, p1, p2, p3, p4, p5, p6, _, pl⟩ := seven_cells HK0.out
      obtain ⟨q0, q1, q2, q3, _, ql⟩ := four_cells HK1.out
      have q0f := blk_frozen HK1.out 0
      have q1f := blk_frozen HK1.out 1
      have q2f := blk_frozen HK1.out 2
      have q3f := blk_frozen HK1.out 3
      go_wp2
      exact ret_TP Try.results21 rfl rfl rfl (put4_at HK1.out) (gotD_mk HQ2.out HSZ.out (by omega) HK1.out HN.out (HRS.out) HBW.out)
    have hk6 := hkn
    clear hkn
    by_cases hkn : o.f0 = 2
    · have HQ2 := Lib.hid (HQ.out.trans (show doK l (some i) o = putT l (some i) o by unfold doK; rw [if_neg hk6, if_pos hkn]))
      have HKN := Lib.hid hkn; clear hkn
      have e6 : (o.f0 == 6) = false := by rw [HKN.out]; rfl
      have e2 : (o.f0 == 2) = true := by rw [HKN.out]; rfl
      have e4 : (o.f0 == 4) = false := by rw [HKN.out]; rfl
      have e1 : (o.f0 == 1) = false := by rw [HKN.out]; rfl
      have e3 : (o.f0 == 3) = false := by rw [HKN.out]; rfl
      clear HQ hk6
      have HPU := Lib.hid (put2_calls W0.heap.size W0 _ l (some i) o W3 HN.out HB0.out HB0.out.size hlen (fun i hi => by have h := HKX.out i hi; have h2 := tabOk_rev HTO.out h; exact ⟨h, by omega, h2.2⟩))
      go_wp2_with fail
      refine HPU.out.mono ?_
      rintro e W4 ⟨A2, c2, rfl, hn4, hb4, hks⟩
      replace HK0 := Lib.hid (kept_on hb4 HK00.out)
      replace HK1 := Lib.hid (kept_on hb4 HK10.out)
      replace HBW := Lib.hid (below_then HB00.out HB00.out.size hb4)
      have HN4 := Lib.hid hn4
      have HEQ := Lib.hid (HQ2.out.trans (pair_eta hks))
      clear p0 p1 p2 p3 p4 p5 p6 pl q0 q1 q2 q3 ql q0f q1f q2f q3f hb4 hn4 hks HPU HN
      obtain ⟨q0, q1, q2, q3, _, ql⟩ := four_cells HK1.out
      have q0f := blk_frozen HK1.out 0
      have q1f := blk_frozen HK1.out 1
      have q2f := blk_frozen HK1.out 2
      have q3f := blk_frozen HK1.out 3
      go_wp2
      exact ret_TP Try.results21 rfl rfl rfl (put4_at HK1.out) (gotD_mk HEQ.out HSZ.out (by omega) HK1.out HN4.out (Kd.R_nil _ _ _ _ _) HBW.out)
    have hk2 := hkn
    clear hkn
    by_cases hkn : o.f0 = 4
    · by_cases hrv : x.f2 = o.f3
      · have HQ2 := Lib.hid (HQ.out.trans (show doK l (some i) o = putT l (some i) o by unfold doK; rw [if_neg hk6, if_neg hk2, if_pos hkn, if_pos (show revK l (some i) = o.f3 from by rw [HXR.out]; exact hrv)]))
        have HKN := Lib.hid hkn; clear hkn
        have e6 : (o.f0 == 6) = false := by rw [HKN.out]; rfl
        have e2 : (o.f0 == 2) = false := by rw [HKN.out]; rfl
        have e4 : (o.f0 == 4) = true := by rw [HKN.out]; rfl
        have e1 : (o.f0 == 1) = false := by rw [HKN.out]; rfl
        have e3 : (o.f0 == 3) = false := by rw [HKN.out]; rfl
        have qrv : (x.f2 != o.f3) = false := by simp [hrv]
        have HRV := Lib.hid hrv; clear hrv
        clear HQ hk6 hk2
        have HPU := Lib.hid (put2_calls W0.heap.size W0 _ l (some i) o W3 HN.out HB0.out HB0.out.size hlen (fun i hi => by have h := HKX.out i hi; have h2 := tabOk_rev HTO.out h; exact ⟨h, by omega, h2.2⟩))
        go_wp2_with fail
        refine HPU.out.mono ?_
        rintro e W4 ⟨A2, c2, rfl, hn4, hb4, hks⟩
        replace HK0 := Lib.hid (kept_on hb4 HK00.out)
        replace HK1 := Lib.hid (kept_on hb4 HK10.out)
        replace HBW := Lib.hid (below_then HB00.out HB00.out.size hb4)
        have HN4 := Lib.hid hn4
        have HEQ := Lib.hid (HQ2.out.trans (pair_eta hks))
        clear p0 p1 p2 p3 p4 p5 p6 pl q0 q1 q2 q3 ql q0f q1f q2f q3f hb4 hn4 hks HPU HN
        obtain ⟨q0, q1, q2, q3, _, ql⟩ := four_cells HK1.out
        have q0f := blk_frozen HK1.out 0
        have q1f := blk_frozen HK1.out 1
        have q2f := blk_frozen HK1.out 2
        have q3f := blk_frozen HK1.out 3
        go_wp2
        exact ret_TP Try.results21 rfl rfl rfl (put4_at HK1.out) (gotD_mk HEQ.out HSZ.out (by omega) HK1.out HN4.out (Kd.R_nil _ _ _ _ _) HBW.out)
      have HQ2 := Lib.hid (HQ.out.trans (show doK l (some i) o = (l, ⟨71, x.f2, ⟨#[]⟩, []⟩) by unfold doK; rw [if_neg hk6, if_neg hk2, if_pos hkn, if_neg (show ¬ revK l (some i) = o.f3 from by rw [HXR.out]; exact hrv)]; rw [HXR.out]))
      have HKN := Lib.hid hkn; clear hkn
      have e6 : (o.f0 == 6) = false := by rw [HKN.out]; rfl
      have e2 : (o.f0 == 2) = false := by rw [HKN.out]; rfl
      have e4 : (o.f0 == 4) = true := by rw [HKN.out]; rfl
      have e1 : (o.f0 == 1) = false := by rw [HKN.out]; rfl
      have e3 : (o.f0 == 3) = false := by rw [HKN.out]; rfl
      have qrv : (x.f2 != o.f3) = true := by simpa using hrv
      clear HQ hk6 hk2 hrv
      go_wp2
      exact ret_TP Try.results21 rfl rfl rfl (put4_at HK1.out) (gotD_mk HQ2.out HSZ.out (by omega) HK1.out HN.out (Kd.R_nil _ _ _ _ _) HBW.out)
    have hk4 := hkn
    clear hkn
    have e6 : (o.f0 == 6) = false := by simpa using hk6
    have e2 : (o.f0 == 2) = false := by simpa using hk2
    have e4 : (o.f0 == 4) = false := by simpa using hk4
    have HQS := Lib.hid (HQ.out.trans (show doK l (some i) o = doS l i o by unfold doK; rw [if_neg hk6, if_neg hk2, if_neg hk4]))
    clear HQ hk6 hk2 hk4
    by_cases hk1 : o.f0 = 1
    · have HQ2 := Lib.hid (HQS.out.trans (HDS.out.trans (if_pos hk1)))
      have e1 : (o.f0 == 1) = true := by simpa using hk1
      have HK1E := Lib.hid hk1; clear hk1
      clear HQS HDS
      go_upto_region 20 with (fail)
      go_region
      all_goals
        go_wp2
        exact ret_TP Try.results21 rfl rfl rfl (put4_at HK1.out) (gotD_drew (gotD_mk HQ2.out HSZ.out (by omega) HK1.out HN.out (Kd.R_nil _ _ _ _ _) HBW.out))
    have e1 : (o.f0 == 1) = false := by simpa using hk1
    by_cases hk3 : o.f0 = 3
    · have HQ2 := Lib.hid (HQS.out.trans (HDS.out.trans ((if_neg hk1).trans (if_pos hk3))))
      have e3 : (o.f0 == 3) = true := by simpa using hk3
      have HK3E := Lib.hid hk3; clear hk3
      clear HQS HDS hk1
      go_upto_region 22 with (fail)
      refine do_erase (base := W0.heap.size) (w0 := W0) (l := l) (g := g) (g1 := w.heap.size + 1) (Kd.N_mono HN.out (fun k hk => ⟨hk, by have := HSZ.out; omega⟩)) hil hlen HB0.out HB0.out.size HK1.out HGE.out.2.1 ?_
      intro W' hn' hb' hg' hk'
      intros
      have HN9 := Lib.hid (Kd.N_mono hn' (fun _ h => h.1) : NB W' W0.heap.size _ (l.eraseIdx i))
      replace HK1 := Lib.hid hk'
      replace HBW := Lib.hid (below_then HB00.out HB00.out.size hb')
      clear hn' hb' hg' hk' HN
      go_wp2
      exact ret_TP Try.results21 rfl rfl rfl (put4_at HK1.out) (gotD_mk HQ2.out HSZ.out (by omega) HK1.out HN9.out (Kd.R_nil _ _ _ _ _) HBW.out)
    have e3 : (o.f0 == 3) = false := by simpa using hk3
    by_cases hM : x.f2 = 9007199254740992
    · have qM : (x.f2 == 9007199254740992) = true := by simpa using hM
      have HQ2 := Lib.hid (HQS.out.trans (HDS.out.trans ((if_neg hk1).trans ((if_neg hk3).trans (if_pos hM)))))
      have HME := Lib.hid hM; clear hM
      clear HQS HDS hk1 hk3
      have HF := Lib.hid (fault2_calls 50 W3)
      go_wp2_with fail
      refine HF.out.mono ?_
      rintro e W4 ⟨rfl, hb4⟩
      replace HK0 := Lib.hid (kept_on hb4 HK0.out)
      replace HK1 := Lib.hid (kept_on hb4 HK1.out)
      replace HBW := Lib.hid (below_then HBW.out HBW.out.size hb4)
      replace HB0 := Lib.hid (below_then HB0.out HB0.out.size hb4)
      replace HN := Lib.hid (Kd.N_below HN.out hb4)
      clear p0 p1 p2 p3 p4 p5 p6 pl q0 q1 q2 q3 ql q0f q1f q2f q3f hb4
      obtain ⟨p0, p1, p2, p3, p4, p5, p6, _, pl⟩ := seven_cells HK0.out
      obtain ⟨q0, q1, q2, q3, _, ql⟩ := four_cells HK1.out
      have q0f := blk_frozen HK1.out 0
      have q1f := blk_frozen HK1.out 1
      have q2f := blk_frozen HK1.out 2
      have q3f := blk_frozen HK1.out 3
      go_wp2
      exact ret_TP Try.results21 rfl rfl rfl (put4_at HK1.out) (gotD_mk HQ2.out HSZ.out (by omega) HK1.out HN.out (Kd.R_nil _ _ _ _ _) HBW.out)
    have qM : (x.f2 == 9007199254740992) = false := by simpa using hM
    have HQ2 := Lib.hid (HQS.out.trans (HDS.out.trans ((if_neg hk1).trans ((if_neg hk3).trans (if_neg hM)))))
    clear HQS HDS hk1 hk3 hM
    obtain ⟨x3, hx3⟩ : ∃ y : S54, y = ⟨x.f0, x.f1, x.f2, o.f5, x.f4, x.f5⟩ := ⟨_, rfl⟩
    have HX3 := Lib.hid hx3
    clear hx3
    obtain ⟨x4, hx4⟩ : ∃ y : S54, y = ⟨x.f0, x.f1, x.f2, o.f5, o.f6, x.f5⟩ := ⟨_, rfl⟩
    have HX4 := Lib.hid hx4
    clear hx4
    obtain ⟨x5, hx5⟩ : ∃ y : S54, y = ⟨x.f0, x.f1, x.f2 + 1, o.f5, o.f6, x.f5⟩ := ⟨_, rfl⟩
    have HX5 := Lib.hid hx5
    clear hx5
    have hwr : IntKind.i64.wrap (x.f2 + 1) = x.f2 + 1 := IntWalk.i64_in _ ⟨by omega, by omega⟩
    have hf3 := hfr 3
    go_upto_region 25 with (fail)
    have HFK3 := Lib.hid (show Kd.FK k54 _ (fun k => W0.heap.size ≤ k ∧ k ≠ g) x3 [.string x.f0, .string x.f1, .int .i64 (x.f2), .int .i64 o.f5, .string x.f4, .slice A5 x.f5.length c5] by rw [HX3.out]; exact k54_mkF W3 _ ⟨x.f0, x.f1, x.f2, o.f5, x.f4, x.f5⟩ hl5 hF5)
    go_cut [116] (fun vz W => Aside0 (NB W W0.heap.size (.slice (some ⟨g, 0, none⟩) l.length c1) (l.set i x3) ∧ Below W0.heap.size W0 W ∧ W.heap[w.heap.size]? = some (.cells #[.int .i64 o.f0, .string o.f1, .string o.f2, .int .i64 o.f3, .string o.f4, .int .i64 o.f5, .string o.f6] 36 (0, 0)) ∧ W.heap[w.heap.size + 1]? = some (.cells #[.int .i64 0, .int .i64 0, .string ⟨#[]⟩, .slice none 0 0] 34 (0, 0))))
    case first =>
      go_wp2
      go_meet
      case rel => exact ⟨by have h := N_set1 HN.out i hil 3 (by decide) h0 h1 h2 h3 h4 h5 HFK3.out; exact h, HB0.out.setCell (p := ⟨g, i * 6 + 3, none⟩) HGE.out.2.2 _, blk_far HK0.out (p := ⟨g, i * 6 + 3, none⟩) (fun e => HGE.out.1 e.symm) _, blk_far HK1.out (p := ⟨g, i * 6 + 3, none⟩) (fun e => HGE.out.2.1 e.symm) _⟩
    clear h0 h1 h2 h3 h4 h5 hl5 hF5 hfr p0 p1 p2 p3 p4 p5 p6 pl q0 q1 q2 q3 ql q0f q1f q2f q3f hf3 HN HB0 HK0 HK1 HBW HFK3
    rename Aside0 _ => HA
    obtain ⟨A5, c5, h0, h1, h2, h3, h4, h5, hl5, hF5, hfr⟩ := atN HA.out.1 i (by omega)
    rw [rd_set l x3 hil, HX3.out] at h0 h1 h2 h3 h4 h5 hl5 hF5
    obtain ⟨p0, p1, p2, p3, p4, p5, p6, _, pl⟩ := seven_cells HA.out.2.2.1
    obtain ⟨q0, q1, q2, q3, _, ql⟩ := four_cells HA.out.2.2.2
    have q0f := blk_frozen HA.out.2.2.2 0
    have q1f := blk_frozen HA.out.2.2.2 1
    have q2f := blk_frozen HA.out.2.2.2 2
    have q3f := blk_frozen HA.out.2.2.2 3
    have hfz := hfr 4
    have HFK4 := Lib.hid (show Kd.FK k54 wc (fun k => W0.heap.size ≤ k ∧ k ≠ g) x4 [.string x.f0, .string x.f1, .int .i64 (x.f2), .int .i64 o.f5, .string o.f6, .slice A5 x.f5.length c5] by rw [HX4.out]; exact k54_mkF _ _ ⟨x.f0, x.f1, x.f2, o.f5, o.f6, x.f5⟩ hl5 hF5)
    go_upto_region 26 with (fail)
    go_cut [122] (fun vz W => Aside0 (NB W W0.heap.size (.slice (some ⟨g, 0, none⟩) l.length c1) (l.set i x4) ∧ Below W0.heap.size W0 W ∧ W.heap[w.heap.size]? = some (.cells #[.int .i64 o.f0, .string o.f1, .string o.f2, .int .i64 o.f3, .string o.f4, .int .i64 o.f5, .string o.f6] 36 (0, 0)) ∧ W.heap[w.heap.size + 1]? = some (.cells #[.int .i64 0, .int .i64 0, .string ⟨#[]⟩, .slice none 0 0] 34 (0, 0))))
    case first =>
      go_wp2
      go_meet
      case rel => exact ⟨by have h := N_set1 HA.out.1 i hil 4 (by decide) h0 h1 h2 h3 h4 h5 HFK4.out; rw [List.set_set] at h; exact h, HA.out.2.1.setCell (p := ⟨g, i * 6 + 4, none⟩) HGE.out.2.2 _, blk_far HA.out.2.2.1 (p := ⟨g, i * 6 + 4, none⟩) (fun e => HGE.out.1 e.symm) _, blk_far HA.out.2.2.2 (p := ⟨g, i * 6 + 4, none⟩) (fun e => HGE.out.2.1 e.symm) _⟩
    clear h0 h1 h2 h3 h4 h5 hl5 hF5 hfr p0 p1 p2 p3 p4 p5 p6 pl q0 q1 q2 q3 ql q0f q1f q2f q3f HA hfz HFK4
    rename Aside0 _ => HA
    obtain ⟨A5, c5, h0, h1, h2, h3, h4, h5, hl5, hF5, hfr⟩ := atN HA.out.1 i (by omega)
    rw [rd_set l x4 hil, HX4.out] at h0 h1 h2 h3 h4 h5 hl5 hF5
    obtain ⟨p0, p1, p2, p3, p4, p5, p6, _, pl⟩ := seven_cells HA.out.2.2.1
    obtain ⟨q0, q1, q2, q3, _, ql⟩ := four_cells HA.out.2.2.2
    have q0f := blk_frozen HA.out.2.2.2 0
    have q1f := blk_frozen HA.out.2.2.2 1
    have q2f := blk_frozen HA.out.2.2.2 2
    have q3f := blk_frozen HA.out.2.2.2 3
    have hfz := hfr 2
    have HFK5 := Lib.hid (show Kd.FK k54 wc (fun k => W0.heap.size ≤ k ∧ k ≠ g) x5 [.string x.f0, .string x.f1, .int .i64 (x.f2 + 1), .int .i64 o.f5, .string o.f6, .slice A5 x.f5.length c5] by rw [HX5.out]; exact k54_mkF _ _ ⟨x.f0, x.f1, x.f2 + 1, o.f5, o.f6, x.f5⟩ hl5 hF5)
    go_upto_region 27 with (fail)
    go_cut [130] (fun vz W => Aside0 (NB W W0.heap.size (.slice (some ⟨g, 0, none⟩) l.length c1) (l.set i x5) ∧ Below W0.heap.size W0 W ∧ W.heap[w.heap.size]? = some (.cells #[.int .i64 o.f0, .string o.f1, .string o.f2, .int .i64 o.f3, .string o.f4, .int .i64 o.f5, .string o.f6] 36 (0, 0)) ∧ W.heap[w.heap.size + 1]? = some (.cells #[.int .i64 0, .int .i64 0, .string ⟨#[]⟩, .slice none 0 0] 34 (0, 0))))
    case first =>
      go_wp2
      go_meet
      case rel => exact ⟨by have h := N_set1 HA.out.1 i hil 2 (by decide) h0 h1 h2 h3 h4 h5 HFK5.out; rw [List.set_set] at h; exact h, HA.out.2.1.setCell (p := ⟨g, i * 6 + 2, none⟩) HGE.out.2.2 _, blk_far HA.out.2.2.1 (p := ⟨g, i * 6 + 2, none⟩) (fun e => HGE.out.1 e.symm) _, blk_far HA.out.2.2.2 (p := ⟨g, i * 6 + 2, none⟩) (fun e => HGE.out.2.1 e.symm) _⟩
    clear h0 h1 h2 h3 h4 h5 hl5 hF5 hfr p0 p1 p2 p3 p4 p5 p6 pl q0 q1 q2 q3 ql q0f q1f q2f q3f HA hfz HFK5
    rename Aside0 _ => HA
    have HK1 := Lib.hid HA.out.2.2.2
    have HBW := Lib.hid (below_then HB00.out HB00.out.size HA.out.2.1)
    obtain ⟨q0, q1, q2, q3, _, ql⟩ := four_cells HK1.out
    have q0f := blk_frozen HK1.out 0
    have q1f := blk_frozen HK1.out 1
    have q2f := blk_frozen HK1.out 2
    have q3f := blk_frozen HK1.out 3
    have HEQ := Lib.hid (HQ2.out.trans (by rw [HX5.out] : (l.set i ⟨x.f0, x.f1, x.f2 + 1, o.f5, o.f6, x.f5⟩, (⟨0, x.f2 + 1, ⟨#[]⟩, []⟩ : S34)) = (l.set i x5, ⟨0, x.f2 + 1, ⟨#[]⟩, []⟩)))
    go_wp2
    exact ret_TP Try.results21 rfl rfl rfl (put4_at HK1.out) (gotD_mk HEQ.out HSZ.out (by omega) HK1.out HA.out.1 (Kd.R_nil _ _ _ _ _) HBW.out)

end Go.Proofs.Ytadhfedbgeenlaa.H

/- strings.Compare, table.order, slices.BinarySearchFunc. -/
namespace Go.Proofs.Ytadhfedbgeenlaa.H
open Go.RowKit Go.Proofs.YtadhfedbgeenlaaW.PrintWords Go.Proofs.YtadhfedbgeenlaaW.PrintLast Go.Proofs.YtadhfedbgeenlaaW.PrintMore
set_option linter.unusedVariables false
set_option linter.unusedSimpArgs false

set_option maxHeartbeats 1000000 in
set_option maxRecDepth 100000 in
theorem compareString_calls (a b : ByteArray) (w : World) :
    Calls Try.prog 75 #[.string a, .string b] w fun e w' => e = .returned (.int .i64 (Lib.compareBytes a.data.toList b.data.toList)) ∧ w = w' := by
  go_enter Try.func75, Try.ntmps75
  go_wp2
  rw [run_callFunc_extern Try.func82 (by kernel_rfl) (by kernel_rfl) (by kernel_rfl) (e := Extern.BytealgCompare.compare) (by kernel_rfl), Lib.run_compareString]
  simp only [Result.andThen]
  rw [Oper.upon_value]
  go_wp2
  go_ret
  exact ⟨rfl, rfl⟩
def cmpK (a b : ByteArray) : Int := if kLt a b = true then -1 else if a = b then 0 else 1
theorem compare_list : ∀ (a b : List UInt8), Lib.compareBytes a b = if Op.bytesLess a b = true then -1 else if a = b then 0 else 1
  | [], [] => rfl
  | [], _ :: _ => rfl
  | _ :: _, [] => by simp [Lib.compareBytes, Op.bytesLess]
  | x :: xs, y :: ys => by
    rw [Lib.compareBytes, Op.bytesLess, compare_list xs ys]
    by_cases h1 : x < y
    · simp [h1]
    · by_cases h2 : y < x
      · have hne : ¬ x = y := fun e => by subst e; exact h1 h2
        simp [h1, h2, hne]
      · have he : x = y := by
          have h3 := UInt8.not_lt.1 h1
          have h4 := UInt8.not_lt.1 h2
          exact UInt8.le_antisymm h4 h3
        subst he
        simp
theorem compare_is (a b : ByteArray) : Lib.compareBytes a.data.toList b.data.toList = cmpK a b := by
  rw [compare_list]
  unfold cmpK kLt
  rw [ByteArray.toList_eq, ByteArray.toList_eq]
  have : (a.data.toList = b.data.toList) = (a = b) := propext ⟨fun h => ByteArray.ext (Array.toList_inj.mp h), fun h => by rw [h]⟩
  simp only [this]
theorem compare_calls (a b : ByteArray) (w : World) :
    Calls Try.prog 62 #[.string a, .string b] w fun e w' => e = .returned (.int .i64 (cmpK a b)) ∧ w = w' := by
  have HC := Lib.hid (compareString_calls a b w)
  rw [compare_is] at HC
  go_enter Try.func62, Try.ntmps62
  go_wp2_with fail
  refine HC.out.mono ?_
  rintro e w' ⟨rfl, rfl⟩
  go_wp2
  go_ret
  exact ⟨rfl, rfl⟩
theorem order_calls (x : S54) (A5 : Option Addr) (c5 : Nat) (key : ByteArray) (w : World) :
    Calls Try.prog 43 #[.agg #[.string x.f0, .string x.f1, .int .i64 x.f2, .int .i64 x.f3, .string x.f4, .slice A5 x.f5.length c5], .string key] w fun e w' => e = .returned (.int .i64 (cmpK x.f0 key)) ∧ Below w.heap.size w w' := by
  have HC := Lib.hid (fun W => compare_calls x.f0 key W)
  go_enter Try.func43, Try.ntmps43
  go_wp2_with fail
  refine (HC.out _).mono ?_
  rintro e w' ⟨rfl, rfl⟩
  go_wp2
  go_ret
  exact ⟨rfl, below_alloc (Below.refl _ _) _⟩
/-- The key's place, or where it would be. -/
def lbK (l : List S54) (key : ByteArray) (p : Nat) : Prop := p ≤ l.length ∧ ∀ k, k < l.length → kLt (rd_T54 l k).f0 key = decide (k < p)

set_option maxHeartbeats 4000000 in
set_option maxRecDepth 100000 in
theorem search_calls (A : Option Addr) (c : Nat) (l : List S54) (key : ByteArray) (p : Nat) (w : World) (hr : Kd.C k54 w A l.length l) (hlen : l.length ≤ 1000) (hp : lbK l key p) :
    Calls Try.prog 42 #[.slice A l.length c, .string key, .func (.func 43) #[] #[]] w fun e w' => e = .returned (.tuple #[.int .i64 p, .bool (decide (p < l.length ∧ (rd_T54 l p).f0 = key))]) ∧ Below w.heap.size w w' := by
  have HRR := Lib.hid hr; clear hr
  have HP := Lib.hid hp; clear hp
  obtain ⟨rb, hrb⟩ : ∃ rb, rb = decide (p < l.length ∧ (rd_T54 l p).f0 = key) := ⟨_, rfl⟩
  have HRB := Lib.hid hrb
  rw [← hrb]
  clear hrb
  obtain ⟨n, hn⟩ : ∃ n, n = l.length := ⟨_, rfl⟩
  have HNL := Lib.hid hn
  rw [← hn] at hlen ⊢
  clear hn
  go_enter Try.func42, Try.ntmps42
  go_wp2
  go_loopg [9, 10] n (fun gk s9 s10 W => ∃ lo hi : Nat, s9 = .int .i64 lo ∧ s10 = .int .i64 hi ∧ lo ≤ hi ∧ hi ≤ n ∧ hi - lo ≤ gk ∧ Aside0 (lo ≤ p ∧ p ≤ hi ∧ Below w.heap.size w W))
  case atStart => exact ⟨0, n, rfl, rfl, Nat.zero_le _, Nat.le_refl _, by omega, ⟨Nat.zero_le _, by have := HP.out.1; have := HNL.out; omega, Below.refl _ _⟩⟩
  case round =>
    obtain ⟨lo, hi, rfl, rfl, hlh, hin, hg, HI⟩ := hrel
    have HB := Lib.hid HI.out.2.2
    by_cases hlt : lo < hi
    · obtain ⟨m, hm⟩ : ∃ m, m = (lo + hi) / 2 := ⟨_, rfl⟩
      have hml : m < n := by omega
      obtain ⟨ad, A5, c5, hA, h0, h1, h2, h3, h4, h5, hl5, hf5⟩ := at_T54 HRR.out (m : Int) (by omega) (by have := HNL.out; omega)
      subst hA
      rw [Int.toNat_natCast, hm] at h0 h1 h2 h3 h4 h5
      replace h0 := kept_cell HB.out h0
      replace h1 := kept_cell HB.out h1
      replace h2 := kept_cell HB.out h2
      replace h3 := kept_cell HB.out h3
      replace h4 := kept_cell HB.out h4
      replace h5 := kept_cell HB.out h5
      have HKT := Lib.hid (HP.out.2 m (by have := HNL.out; omega))
      rw [show ((((lo + hi) / 2 : Nat)) : Int) = ((m : Nat) : Int) by rw [hm]] at *
      generalize rd_T54 l m = x at *
      clear hl5 hf5
      have HM := Lib.hid hm
      have HC := Lib.hid (fun W => order_calls x A5 c5 key W)
      cases hc : kLt x.f0 key
      · have hp2 : p ≤ m := by have h := HKT.out; rw [hc] at h; exact Nat.not_lt.1 (fun h3 => by rw [decide_eq_true h3] at h; cases h)
        have HCP := Lib.hid (show ¬ cmpK x.f0 key < 0 by unfold cmpK; rw [hc, if_neg (by decide)]; split <;> decide)
        have HP2 := Lib.hid hp2
        clear hc hp2 hm hml
        generalize cmpK x.f0 key = cv at *
        have hcv := HCP.out
        go_wp2_with fail
        refine (HC.out _).mono ?_
        rintro e w1 ⟨rfl, hb⟩
        go_wp2
        go_roundg (m - lo)
        case measure => have := HM.out; omega
        case rel => exact ⟨lo, m, rfl, by have := HM.out; rw [show ((lo : Int) + (hi : Int)) / 2 = ((m : Nat) : Int) by omega], by have := HM.out; omega, by have := HM.out; omega, Nat.le_refl _, ⟨HI.out.1, HP2.out, below_then HB.out HB.out.size hb⟩⟩
      · have hp2 : m < p := by have h := HKT.out; rw [hc] at h; exact of_decide_eq_true h.symm
        have HCP := Lib.hid (show cmpK x.f0 key < 0 by unfold cmpK; rw [hc, if_pos rfl]; decide)
        have HP2 := Lib.hid hp2
        clear hc hp2 hm hml
        generalize cmpK x.f0 key = cv at *
        have hcv := HCP.out
        go_wp2_with fail
        refine (HC.out _).mono ?_
        rintro e w1 ⟨rfl, hb⟩
        go_wp2
        go_roundg (hi - (m + 1))
        case measure => have := HM.out; omega
        case rel => exact ⟨m + 1, hi, by have := HM.out; rw [show ((lo : Int) + (hi : Int)) / 2 + 1 = ((m + 1 : Nat) : Int) by omega], rfl, by have := HM.out; omega, hin, Nat.le_refl _, ⟨HP2.out, HI.out.2.1, below_then HB.out HB.out.size hb⟩⟩
    · have : hi = lo := by omega
      subst this
      obtain rfl : p = hi := by have := HI.out; omega
      clear hlt hlh hg
      by_cases hpn : p < n
      · obtain ⟨ad, A5, c5, hA, h0, h1, h2, h3, h4, h5, hl5, hf5⟩ := at_T54 HRR.out (p : Int) (by omega) (by have := HNL.out; omega)
        subst hA
        rw [Int.toNat_natCast] at h0 h1 h2 h3 h4 h5
        replace h0 := kept_cell HB.out h0
        replace h1 := kept_cell HB.out h1
        replace h2 := kept_cell HB.out h2
        replace h3 := kept_cell HB.out h3
        replace h4 := kept_cell HB.out h4
        replace h5 := kept_cell HB.out h5
        have hpn2 : p < l.length := by rw [← HNL.out]; exact hpn
        have HD := Lib.hid (show rb = decide ((rd_T54 l p).f0 = key) by rw [HRB.out]; simp [hpn2])
        clear hpn2
        generalize rd_T54 l p = x at *
        clear hl5 hf5
        have b2 : (p : Int) < n := by omega
        have b1 : (0 : Int) ≤ p := by omega
        have HC := Lib.hid (fun W => order_calls x A5 c5 key W)
        have HCK := Lib.hid (show (cmpK x.f0 key == 0) = decide (x.f0 = key) by
          unfold cmpK
          by_cases he : x.f0 = key
          · rw [decide_eq_true he, he, kLt_irrefl, if_neg (by decide), if_pos rfl]; rfl
          · rw [decide_eq_false he]
            split
            · rfl
            · first | rfl | (rw [if_neg he]; rfl))
        have hck := HCK.out
        generalize cmpK x.f0 key = cv at *
        clear hpn
        go_wp2_with fail
        refine (HC.out _).mono ?_
        rintro e w1 ⟨rfl, hb⟩
        go_wp2
        exact bodyPost_ret (v := .tuple #[.int .i64 p, .bool (decide (x.f0 = key))]) (results_tmp2 Try.results42 _ _ _) rfl ⟨by rw [HD.out], below_then HB.out HB.out.size hb⟩
      have b2 : ¬ (p : Int) < n := by omega
      have HD := Lib.hid (show rb = false by rw [HRB.out, ← HNL.out]; simp [hpn])
      clear hpn
      go_wp2
      exact bodyPost_ret (v := .tuple #[.int .i64 p, .bool false]) (results_tmp2 Try.results42 _ _ _) rfl ⟨by rw [HD.out], HB.out⟩

end Go.Proofs.Ytadhfedbgeenlaa.H
