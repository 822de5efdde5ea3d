/- A step: tables behind an event. -/
import Derived.Test.YtadhfedbgeenlaaQ7
import Derived.Test.YtadhfedbgeenlaaQ0
import Derived.Test.YtadhfedbgeenlaaQ8
import Derived.Deep.LoopGhost
import Derived.Scope
import Derived.Shelf.Abstract
namespace Go.Proofs.Ytadhfedbgeenlaa.H
open Go.RowKit Go.Proofs.YtadhfedbgeenlaaW.PrintWords Go.Proofs.YtadhfedbgeenlaaW.PrintLast Go.Proofs.YtadhfedbgeenlaaW.PrintMore
set_option linter.unusedVariables false
set_option linter.unusedSimpArgs false
/-- The step's world: the event's variable, the result's, and marks. -/
def StJ (n0 : Nat) (w : World) (e : EvT) (A11 : Option Addr) (c11 : Nat) (ok : Nat → Prop) (Ms : List Nat) (out : List (List S54)) (W : World) : Prop :=
  Below n0 w W ∧ W.heap[n0]? = some (.cells #[.int .i64 e.f0.f0, .string e.f0.f1, .string e.f0.f2, .int .i64 e.f0.f3, .string e.f0.f4, .int .i64 e.f0.f5, .string e.f0.f6, .bool e.f1, .int .i64 e.f2.f0, .int .i64 e.f2.f1, .string e.f2.f2, .slice A11 e.f2.f3.length c11] 38 (0, 0)) ∧ (∃ (A : Option Addr) (c : Nat), W.heap[n0 + 1]? = some (.cells #[.slice A out.length c] 40 (0, 0)) ∧ Kd.N (Kd.slice 54 k54) 26 W (n0 + 2) (fun j => (j ≠ n0 ∧ j ≠ n0 + 1) ∧ ok j) (.slice A out.length c) out) ∧ ∀ D ∈ Ms, W.heap[D]? = some (.deferred (some []))
section
variable {n0 : Nat} {w W W' : World} {e : EvT} {A11 : Option Addr} {c11 : Nat} {ok ok' : Nat → Prop} {Ms : List Nat} {out : List (List S54)}
theorem StJ.below (h : StJ n0 w e A11 c11 ok Ms out W) (hb : Below W.heap.size W W') : StJ n0 w e A11 c11 ok Ms out W' := by
  obtain ⟨h1, h2, ⟨A, c, h3, h4⟩, h5⟩ := h
  have hl := blk_lt h3
  exact ⟨below_then h1 (by omega) hb, kept_on hb h2, ⟨A, c, kept_on hb h3, Kd.N_below h4 hb⟩, fun D hD => kept_on hb (h5 D hD)⟩
theorem StJ.mono (h : StJ n0 w e A11 c11 ok Ms out W) (hk : ∀ j, ok j → ok' j) : StJ n0 w e A11 c11 ok' Ms out W := by
  obtain ⟨h1, h2, ⟨A, c, h3, h4⟩, h5⟩ := h
  exact ⟨h1, h2, ⟨A, c, h3, Kd.N_mono h4 (fun j hj => ⟨hj.1, hk j hj.2⟩)⟩, h5⟩
theorem StJ.bound (h : StJ n0 w e A11 c11 ok Ms out W) : StJ n0 w e A11 c11 (fun j => ok j ∧ j < W.heap.size) Ms out W := by
  obtain ⟨h1, h2, ⟨A, c, h3, h4⟩, h5⟩ := h
  exact ⟨h1, h2, ⟨A, c, h3, Kd.N_mono (Kd.N_bound h4) (fun j hj => ⟨hj.1.1, hj.1.2, hj.2⟩)⟩, h5⟩
theorem StJ.putObj (h : StJ n0 w e A11 c11 ok Ms out W) (b : Nat) (o : Obj) (hb : n0 + 2 ≤ b) (hok : ¬ ok b) (hM : ¬ b ∈ Ms) : StJ n0 w e A11 c11 ok Ms out (W.putObj b o) := by
  obtain ⟨h1, h2, ⟨A, c, h3, h4⟩, h5⟩ := h
  have hk : ∀ k, k ≠ b → (W.putObj b o).heap[k]? = W.heap[k]? := fun k hk => World.putObj_heap_other (fun e => hk (by first | exact e | exact e.symm))
  refine ⟨⟨h1.os, h1.tape, h1.output, by simpa [World.putObj] using h1.size, fun k hkn => (hk k (by omega)).trans (h1.block k hkn)⟩, (hk n0 (by omega)).trans h2, ⟨A, c, (hk _ (by omega)).trans h3, Kd.N_step h4 (fun k hko _ => hk k (fun e => hok (e ▸ hko.2)))⟩, fun D hD => (hk D (fun e => hM (e ▸ hD))).trans (h5 D hD)⟩
end
theorem run_loadVar_slice {P : Program} (w : World) (a : Addr) (ty el : TypeId) (v : Value) (hu : P.underlying ty = some (.slice el)) (hc : w.cell? a = some v) : (loadVar ty a).run P w = .ok v w := by
  have hagg : (isAgg ty).run P w = .ok false w := by
    unfold isAgg
    simp [run_underlying hu]
  simp [loadVar, hagg, hc]
theorem results_cell_slice {P : Program} {fn : Func} {p : Tmp} {ty el : TypeId} (h : fn.results = #[.cell p ty]) (tmps : Array Value) (w : World) (g : Nat) (v : Value) (hp : tmps.getD p undef = .pointer (some ⟨g, 0, none⟩)) (hg : w.cell? ⟨g, 0, none⟩ = some v) (hu : P.underlying ty = some (.slice el)) : (results fn tmps).run P w = .ok v w := by
  have hp' : tmps[p]?.getD undef = .pointer (some ⟨g, 0, none⟩) := by simpa using hp
  simp [results, h, hp', asAddr, run_loadVar_slice w _ ty el v hu hg]
theorem takeFlat {α β : Type} (f : α → List β) {l : List α} {k : Nat} {x : α} (h : l[k]? = some x) : (l.take (k + 1)).flatMap f = (l.take k).flatMap f ++ f x := by
  rw [List.take_add_one, h, List.flatMap_append]
  simp
theorem behind_len (t : List S54) (e : EvT) : (behindT t e).length ≤ 2 := by
  unfold behindT
  split
  · split <;> simp
  · simp
theorem flat_len (e : EvT) : ∀ (l : List (List S54)), (l.flatMap (fun t => behindT t e)).length ≤ 2 * l.length
  | [] => Nat.le_refl _
  | t :: l => by
    have h1 := behind_len t e
    have h2 := flat_len e l
    rw [List.flatMap_cons, List.length_append, List.length_cons]
    omega

set_option maxHeartbeats 4000000 in
set_option maxRecDepth 100000 in
theorem stepF_calls (okf : Nat → Prop) (ts : List (List S54)) (e : EvT) (A A11 : Option Addr) (c c11 : Nat) (w : World) (hof : ∀ j, okf j → j < w.heap.size) (hr : Kd.F (Kd.slice 54 k54) w okf A ts.length ts) (hS : Kd.string.C w A11 e.f2.f3.length e.f2.f3) (hP : ∀ t ∈ ts, PlainT t ∧ t.length ≤ 1000) (hlen : ts.length ≤ 1000000) :
    Calls Try.prog 25 #[.slice A ts.length c, .agg #[.int .i64 e.f0.f0, .string e.f0.f1, .string e.f0.f2, .int .i64 e.f0.f3, .string e.f0.f4, .int .i64 e.f0.f5, .string e.f0.f6, .bool e.f1, .int .i64 e.f2.f0, .int .i64 e.f2.f1, .string e.f2.f2, .slice A11 e.f2.f3.length c11]] w fun r w' => ∃ A' c', r = .returned (.slice A' (stepT ts e).length c') ∧ Kd.F (Kd.slice 54 k54) w' (fun j => okf j ∨ w.heap.size ≤ j) A' (stepT ts e).length (stepT ts e) ∧ Below w.heap.size w w' := by
  have hsem := @Oper.semAt_some
  have hml : ts.length ≤ 9223372036854775807 := (Kd.F_now hr).2.1
  have HOF := Lib.hid hof
  have HR := Lib.hid hr
  have HS := Lib.hid hS
  have HP := Lib.hid hP
  obtain ⟨res, hres⟩ : ∃ res, res = stepT ts e := ⟨_, rfl⟩
  rw [← hres]
  have HRS := Lib.hid hres
  clear hres
  generalize hW0 : (w.alloc (.cells #[.int .i64 e.f0.f0, .string e.f0.f1, .string e.f0.f2, .int .i64 e.f0.f3, .string e.f0.f4, .int .i64 e.f0.f5, .string e.f0.f6, .bool e.f1, .int .i64 e.f2.f0, .int .i64 e.f2.f1, .string e.f2.f2, .slice A11 e.f2.f3.length c11] 38)).alloc (.cells #[.slice none 0 0] 40) = W0
  have HJ0 := Lib.hid (show StJ w.heap.size w e A11 c11 (fun j => (¬ j ∈ ([] : List Nat) ∧ (okf j ∨ w.heap.size ≤ j))) [] [] W0 by
    rw [← hW0]
    exact ⟨below_alloc (below_alloc (Below.refl _ _) _) _, alloc_on (new_at rfl _) _, ⟨none, 0, new_at (by simp) _, Kd.N_nil _ _ _ _ _⟩, fun D hD => by cases hD⟩)
  have HW0 := Lib.hid hW0; clear hW0
  clear hr hS hP hof
  refine (callsIn_wide (n := 3)).1 ?_
  refine callsIn_of_wp_marks Try.func25 rfl trivial ?_ rfl
  simp only [Try.ntmps25, List.size_toArray, List.length_cons, List.length_nil, Nat.reduceAdd, Nat.reduceSub, Array.replicate_succ, Array.replicate_zero, List.push_toArray, List.append_toArray, List.nil_append, List.cons_append]
  refine (wpIn_wide (n := 3)).2 ?_
  go_upto_region 1 with (fail)
  rw [HW0.out]
  clear HW0
  have HBT := Lib.hid (fun (k : Nat) (x : List S54) (h : ts[k]? = some x) => takeFlat (fun t => behindT t e) h)
  have HST := Lib.hid (show res = ddGo [] ((ts.take ts.length).flatMap (fun t => behindT t e)) by rw [HRS.out, List.take_length]; rfl)
  go_wp2
  refine wp_loop_ghost (fun (g : Nat) (a : Act) (W : World) => ∃ (k : Nat) (u6 u13 u14 u15 u16 u17 u18 u34 : Value) (Ms : List Nat), k ≤ ts.length ∧ g = ts.length - k ∧ a = { tmps := #[.slice A ts.length c, .agg #[.int .i64 e.f0.f0, .string e.f0.f1, .string e.f0.f2, .int .i64 e.f0.f3, .string e.f0.f4, .int .i64 e.f0.f5, .string e.f0.f6, .bool e.f1, .int .i64 e.f2.f0, .int .i64 e.f2.f1, .string e.f2.f2, .slice A11 e.f2.f3.length c11], undef, .pointer (some ⟨w.heap.size, 0, none⟩), .pointer (some ⟨w.heap.size + 1, 0, none⟩), undef, u6, undef, undef, undef, .slice A ts.length c, .int .i64 ts.length, .int .i64 k, u13, u14, u15, u16, u17, u18, undef, undef, undef, undef, undef, undef, undef, undef, undef, undef, undef, undef, undef, undef, undef, u34, undef], defers := Ms.map (fun D => { target := .collected D, args := #[] }) } ∧
    Aside0 (Ms.Nodup ∧ (∀ D ∈ Ms, w.heap.size + 2 ≤ D ∧ D < W.heap.size) ∧ StJ w.heap.size w e A11 c11 (fun j => (¬ j ∈ Ms ∧ (okf j ∨ w.heap.size ≤ j))) Ms (ddGo [] ((ts.take k).flatMap (fun t => behindT t e))) W)) ts.length ?_ ?_
  · exact ⟨0, undef, undef, undef, undef, undef, undef, undef, undef, [], Nat.zero_le _, rfl, rfl, ⟨⟨List.nodup_nil, fun D hD => (by cases hD), HJ0.out⟩⟩⟩
  rintro gk a W ⟨k, u6, u13, u14, u15, u16, u17, u18, u34, Ms, hk, rfl, rfl, HI⟩
  obtain ⟨out, hout⟩ : ∃ out, out = ddGo [] ((ts.take k).flatMap (fun t => behindT t e)) := ⟨_, rfl⟩
  rw [← hout] at HI
  have HOUT := Lib.hid hout
  have HOL := Lib.hid (show out.length ≤ 2000000 by
    have h1 := ddGo_len ((ts.take k).flatMap (fun t => behindT t e)) []
    have h2 := flat_len e (ts.take k)
    rw [← hout, List.length_nil] at h1
    rw [List.length_take] at h2
    omega)
  clear hout
  by_cases hlt : k < ts.length
  rotate_left
  · obtain rfl : k = ts.length := by omega
    clear hlt
    have HQ := Lib.hid (HST.out.trans HOUT.out.symm)
    obtain ⟨A9, c9, ho, hN9⟩ := HI.out.2.2.2.2.1
    have a0 := (blk_cell ho 0).trans rfl
    have a0f := blk_frozen ho 0
    have HO := Lib.hid (And.intro ho hN9)
    clear ho hN9
    go_wp2
    have hne : ∀ D ∈ Ms, D ≠ w.heap.size + 1 := fun D hD => by have := HI.out.2.1 D hD; omega
    obtain rfl := HQ.out
    refine leaves_marks Ms _ HI.out.1 (fun D hD => (Below.heap_setCell W ⟨w.heap.size + 1, 0, none⟩ _ D (hne D hD)).trans (HI.out.2.2.2.2.2 D hD)) (fun W' hs h1 h2 h3 hk => ?_)
    have hn1 : ¬ (w.heap.size + 1) ∈ Ms := fun h => hne _ h rfl
    have hg' : W'.heap[w.heap.size + 1]? = some (.cells #[.slice A9 res.length c9] 40 (0, 0)) := (hk _ hn1).trans (blk_put HO.out.1 0 _ rfl)
    refine ⟨.slice A9 res.length c9, results_cell_slice Try.results25 _ _ (w.heap.size + 1) _ rfl ((blk_cell hg' 0).trans rfl) Try.underlying40, A9, ⟨c9, rfl⟩, ?_, ?_⟩
    · exact Kd.F_mono (Kd.N_F (Kd.N_step (Kd.N_far (p := ⟨w.heap.size + 1, 0, none⟩) HO.out.2 (fun j hj => hj.1.2) _) (fun j hj hlt => hk j hj.2.1))) (fun j hj => hj.2.2)
    · have hb := HI.out.2.2.1.setCell (p := ⟨w.heap.size + 1, 0, none⟩) (Nat.le_succ _) (.slice A9 res.length c9)
      exact ⟨h1.trans hb.os, h2.trans hb.tape, h3.trans hb.output, by rw [← hs]; exact hb.size, fun k hkn => (hk k (fun h => by have := HI.out.2.1 k h; omega)).trans (hb.block k hkn)⟩
  obtain ⟨ad, A0, c0, hA, h0, hl0, hC0⟩ := atFL HR.out k (by omega) (by omega)
  subst hA
  rw [Int.toNat_natCast] at h0
  have htk : ts[k]? = some (rdRow ts k) := by
    rw [List.getElem?_eq_getElem hlt]
    congr 1
    simp [rdRow, List.getD_eq_getElem?_getD, List.getElem?_eq_getElem hlt]
  have hPt := HP.out _ (List.mem_of_getElem? htk)
  have HNX := Lib.hid (show ddGo [] ((ts.take (k + 1)).flatMap (fun t => behindT t e)) = ddGo out (behindT (rdRow ts k) e) by rw [HBT.out k _ htk, ddGo_append, HOUT.out])
  generalize rdRow ts k = t at *
  have HC0 := Lib.hid hC0
  have HPT := Lib.hid (And.intro hPt.1 (And.intro hPt.2 hl0))
  have b1 : (0 : Int) ≤ k := by omega
  have b2 : (k : Int) < ts.length := by omega
  replace h0 := kept_cell HI.out.2.2.1 h0
  obtain ⟨e0, e1, e2, e3, e4, e5, e6, e7, e8, e9, e10, e11, el⟩ := twelve_cells HI.out.2.2.2.1
  have HBC := Lib.hid (behind_calls A0 A11 c0 c11 t e W)
  clear hC0 hPt hl0 htk
  go_wp2
  refine wp_scope_straight ?_
  refine wp_seq (wp_label ?_)
  change Code.wp _ _ _ _ _
  go_wp2_with fail
  refine HBC.out.mono ?_
  rintro r W2 ⟨rfl, hW2⟩
  have HL := Lib.hid (show W2.heap.size = W.heap.size + 2 by rw [hW2]; simp)
  have HBB := Lib.hid (show W2.heap[W.heap.size]? = some (.cells #[.slice A0 t.length c0] 26 (0, 0)) ∧ W2.heap[W.heap.size + 1]? = some (.cells #[.int .i64 e.f0.f0, .string e.f0.f1, .string e.f0.f2, .int .i64 e.f0.f3, .string e.f0.f4, .int .i64 e.f0.f5, .string e.f0.f6, .bool e.f1, .int .i64 e.f2.f0, .int .i64 e.f2.f1, .string e.f2.f2, .slice A11 e.f2.f3.length c11] 38 (0, 0)) by rw [hW2]; exact ⟨alloc_on (new_at rfl _) _, new_at (by simp) _⟩)
  have HJ2 := Lib.hid (show StJ w.heap.size w e A11 c11 (fun j => (¬ j ∈ Ms ∧ (okf j ∨ w.heap.size ≤ j)) ∧ j < W.heap.size) Ms out W2 from by
    refine (HI.out.2.2.bound).below ?_
    rw [hW2]
    exact below_alloc (below_alloc (Below.refl _ _) _) _)
  have HMS := Lib.hid HI.out.2.1
  have HMN := Lib.hid HI.out.1
  have HWS := Lib.hid (show w.heap.size + 2 ≤ W.heap.size by obtain ⟨_, _, ⟨_, _, h, _⟩, _⟩ := HI.out.2.2; exact blk_lt h)
  clear hW2 HBC HI e0 e1 e2 e3 e4 e5 e6 e7 e8 e9 e10 e11 el h0
  go_wp2
  refine wp_range_on (gf := 69) (lb := #[.pointer (some ⟨W.heap.size, 0, none⟩), .pointer (some ⟨W.heap.size + 1, 0, none⟩)]) rfl (Go.Proofs.enters_of Try.func69 (by kernel_rfl) rfl) encV rfl
    (fun (xs : List TabV) (Wx : World) => StJ w.heap.size w e A11 c11 (fun j => (¬ j ∈ Ms ∧ (okf j ∨ w.heap.size ≤ j)) ∧ (j < W.heap.size ∨ (¬ xs = [] ∧ W.heap.size + 4 ≤ j))) Ms (ddGo out (xs.map (fun x => x.2.2))) Wx ∧ Wx.heap[W.heap.size]? = some (.cells #[.slice A0 t.length c0] 26 (0, 0)) ∧ Wx.heap[W.heap.size + 1]? = some (.cells #[.int .i64 e.f0.f0, .string e.f0.f1, .string e.f0.f2, .int .i64 e.f0.f3, .string e.f0.f4, .int .i64 e.f0.f5, .string e.f0.f6, .bool e.f1, .int .i64 e.f2.f0, .int .i64 e.f2.f1, .string e.f2.f2, .slice A11 e.f2.f3.length c11] 38 (0, 0)))
    (fun pre x Wx => HV okf (W.heap.size + 4) pre x Wx) (fun xs => xs.map (fun x => x.2.2) = behindT t e) ?stab ?put ?hput ⟨HJ2.out.mono (fun j hj => ⟨hj.1, .inl hj.2⟩), HBB.out⟩ ?con
    (fun x => { tmps := #[.slice (some ad) ts.length c, .agg #[.int .i64 e.f0.f0, .string e.f0.f1, .string e.f0.f2, .int .i64 e.f0.f3, .string e.f0.f4, .int .i64 e.f0.f5, .string e.f0.f6, .bool e.f1, .int .i64 e.f2.f0, .int .i64 e.f2.f1, .string e.f2.f2, .slice A11 e.f2.f3.length c11], undef, .pointer (some ⟨w.heap.size, 0, none⟩), .pointer (some ⟨w.heap.size + 1, 0, none⟩), undef, .slice A0 t.length c0, encV x, undef, undef, .slice (some ad) ts.length c, .int .i64 ts.length, .int .i64 k, .bool true, .pointer (some (ad.add k)), .slice A0 t.length c0, .slice A0 t.length c0, .agg #[.int .i64 e.f0.f0, .string e.f0.f1, .string e.f0.f2, .int .i64 e.f0.f3, .string e.f0.f4, .int .i64 e.f0.f5, .string e.f0.f6, .bool e.f1, .int .i64 e.f2.f0, .int .i64 e.f2.f1, .string e.f2.f2, .slice A11 e.f2.f3.length c11], .func (.func 69) #[] #[.pointer (some ⟨W.heap.size, 0, none⟩), .pointer (some ⟨W.heap.size + 1, 0, none⟩)], encV x, undef, undef, undef, undef, undef, undef, undef, undef, undef, undef, undef, undef, undef, undef, u34, undef], defers := [] }) ?assign ?body ?done
  case stab => exact fun xs Wa Wb h hb => ⟨h.1.below hb, kept_on hb h.2.1, kept_on hb h.2.2⟩
  case put =>
    rw [HL.out]
    exact fun xs Wx o h => ⟨h.1.putObj _ o (by have := HWS.out; omega) (fun hk => by omega) (fun hk => by have := HMS.out _ hk; omega), (World.putObj_heap_other (by omega)).trans h.2.1, (World.putObj_heap_other (by omega)).trans h.2.2⟩
  case hput =>
    rw [HL.out]
    exact fun pre x Wx o h => ⟨h.1, h.2.1, Kd.F_step h.2.2 (fun q hq hlt => World.putObj_heap_other (by have := HWS.out; have hq2 := Or.imp_left (HOF.out q) hq; omega))⟩
  case con =>
    intro J' W1 hs1 hJJ hst' hY' h0'
    rw [HL.out] at hs1 hY' ⊢
    refine behind1_in _ W.heap.size (W.heap.size + 1) okf t e A0 A11 c0 c11 J' W1 (fun xs Wx h => ⟨(hJJ xs Wx h).2.1, (hJJ xs Wx h).2.2, Kd.F_below HC0.out (hJJ xs Wx h).1.1, Kd.C_below HS.out (hJJ xs Wx h).1.1⟩) hst' ?_ h0' HPT.out.1 HPT.out.2.1 HPT.out.2.2
    rw [hs1]
    exact hY'
  case assign =>
    intro x W3 K hK
    gi_wp2
    exact hK
  case body =>
    rw [HL.out]
    rintro pre ⟨Ax, cx, u⟩ W3 ⟨hj, hg1, hg2⟩ hx hlt3
    have hsY : u ∈ ddGo out (pre.map (fun x => x.2.2)) → ddGo out ((pre ++ [((Ax, cx, u) : TabV)]).map (fun x => x.2.2)) = ddGo out (pre.map (fun x => x.2.2)) := fun h => by rw [List.map_append]; exact (ddGo_snoc u _ out).trans (if_pos h)
    have hsN : ¬ u ∈ ddGo out (pre.map (fun x => x.2.2)) → ddGo out ((pre ++ [((Ax, cx, u) : TabV)]).map (fun x => x.2.2)) = ddGo out (pre.map (fun x => x.2.2)) ++ [u] := fun h => by rw [List.map_append]; exact (ddGo_snoc u _ out).trans (if_neg h)
    have hlo : (ddGo out (pre.map (fun x => x.2.2))).length ≤ 1000000000 := by
      have h1 := ddGo_len (pre.map (fun x => x.2.2)) out
      have h2 := HOL.out
      have h3 := hx.1
      rw [List.length_map] at h1
      omega
    generalize ddGo out ((pre ++ [((Ax, cx, u) : TabV)]).map (fun x => x.2.2)) = o10 at *
    generalize ddGo out (pre.map (fun x => x.2.2)) = o9 at *
    obtain ⟨hB3, hE3, ⟨A9, c9, ho, hN9⟩, hD3⟩ := hj
    simp only [encV]
    have a0 := (blk_cell ho 0).trans rfl
    have a0f := blk_frozen ho 0
    have HO := Lib.hid ho
    have HN9 := Lib.hid hN9
    have HX := Lib.hid hx
    have HIN := Lib.hid (And.intro hB3 (And.intro hE3 (And.intro hD3 (And.intro hg1 hg2))))
    have hm : o9.length = o9.length := rfl
    have HM := Lib.hid hm
    have HSY := Lib.hid hsY
    have HSN := Lib.hid hsN
    clear hsY hsN ho hN9 hx hB3 hE3 hD3 hg1 hg2
    have HN10 := Lib.hid (Kd.N_mono HN9.out (fun j hj => ⟨hj.1, hj.2.1, by rcases hj.2.2 with h | h; exact .inl h; exact .inr ⟨by simp, h.2⟩⟩) : Kd.N (Kd.slice 54 k54) 26 W3 (w.heap.size + 2) (fun j => (j ≠ w.heap.size ∧ j ≠ w.heap.size + 1) ∧ (¬ j ∈ Ms ∧ (okf j ∨ w.heap.size ≤ j)) ∧ (j < W.heap.size ∨ (¬ (pre ++ [((Ax, cx, u) : TabV)]) = [] ∧ W.heap.size + 4 ≤ j))) (.slice A9 o9.length c9) o9)
    have HKEEP := Lib.hid (fun (Wz : World) (hb : Below W3.heap.size W3 Wz) (ho : o10 = o9) => (show (StJ w.heap.size w e A11 c11 (fun j => (¬ j ∈ Ms ∧ (okf j ∨ w.heap.size ≤ j)) ∧ (j < W.heap.size ∨ (¬ (pre ++ [((Ax, cx, u) : TabV)]) = [] ∧ W.heap.size + 4 ≤ j))) Ms o10 Wz ∧ Wz.heap[W.heap.size]? = some (.cells #[.slice A0 t.length c0] 26 (0, 0)) ∧ Wz.heap[W.heap.size + 1]? = some (.cells #[.int .i64 e.f0.f0, .string e.f0.f1, .string e.f0.f2, .int .i64 e.f0.f3, .string e.f0.f4, .int .i64 e.f0.f5, .string e.f0.f6, .bool e.f1, .int .i64 e.f2.f0, .int .i64 e.f2.f1, .string e.f2.f2, .slice A11 e.f2.f3.length c11] 38 (0, 0))) ∧ Wz.heap[W.heap.size + 2]? = W3.heap[W.heap.size + 2]? ∧ Wz.heap[W.heap.size + 2 + 1]? = W3.heap[W.heap.size + 2 + 1]? from by
      rw [ho]
      exact ⟨⟨StJ.below ⟨HIN.out.1, HIN.out.2.1, ⟨A9, c9, HO.out, HN10.out⟩, HIN.out.2.2.1⟩ hb, kept_on hb HIN.out.2.2.2.1, kept_on hb HIN.out.2.2.2.2⟩, hb.block _ (by omega), hb.block _ (by omega)⟩))
    have HLT3 := Lib.hid hlt3
    gi_wp2
    gi_loopw [22] (fun v22 Wr => ∃ q : Nat, q ≤ o9.length ∧ v22 = .int .i64 q ∧ Aside0 (¬ u ∈ o9.take q) ∧ Aside0 (Below W3.heap.size W3 Wr)) (fun v22 _ => o9.length - (intOf v22).toNat)
    case atStart => exact ⟨0, Nat.zero_le _, rfl, ⟨by simp⟩, ⟨Below.refl _ _⟩⟩
    case round =>
      obtain ⟨q, hq, rfl, HNI, HBR⟩ := hrel
      by_cases hqm : q < o9.length
      rotate_left
      · obtain rfl : q = o9.length := by omega
        clear hqm
        have hni : ¬ u ∈ o9 := by have h := HNI.out; rw [List.take_length] at h; exact h
        have ho10 := HSN.out hni
        have hwr := HBR.out.size
        have hown : ∀ k : Nat, (k = w.heap.size ∨ k = w.heap.size + 1 ∨ (W.heap.size ≤ k ∧ k < W.heap.size + 4) ∨ k ∈ Ms) → some k ≠ (Value.slice A9 o9.length c9).ownBlock := fun k hk he => by
          have h := HN10.out.1 k he.symm
          rcases hk with h1 | h1 | h1 | h1
          · exact h.1.1 h1
          · exact h.1.2 h1
          · omega
          · exact h.2.1.1 h1
        obtain ⟨v1, w1, hrun, hN1, hg1⟩ := N_append_run (Kd.slice 54 k54) (w.heap.size + 2) 40 40 26 (.slice none 0 0) 24 Try.underlying40 info26 rfl (by decide) (by omega) (.slice A9 o9.length c9) o9 u [.slice Ax u.length cx] (fun j => (j ≠ w.heap.size ∧ j ≠ w.heap.size + 1) ∧ (¬ j ∈ Ms ∧ (okf j ∨ w.heap.size ≤ j)) ∧ (j < W.heap.size ∨ (¬ (pre ++ [((Ax, cx, u) : TabV)]) = [] ∧ W.heap.size + 4 ≤ j))) (fun j => okf j ∨ (pre = [] ∧ W.heap.size + 4 ≤ j)) wr
          (Kd.FK_slice_mk HX.out.2.1 (Kd.F_below HX.out.2.2 HBR.out)) (fun k hk0 => by
            have hk : k < w.heap.size ∨ (pre = [] ∧ W.heap.size + 4 ≤ k) := Or.imp_left (HOF.out k) hk0
            have hms : ¬ k ∈ Ms := fun h => by have := HMS.out k h; have := HWS.out; omega
            have hws := HWS.out
            have hkw : okf k ∨ w.heap.size ≤ k := Or.imp_right (fun h => by omega) hk0
            refine ⟨⟨⟨by omega, by omega⟩, ⟨hms, hkw⟩, ?_⟩, fun he => ?_⟩
            · rcases hk with h | h
              · exact .inl (by omega)
              · exact .inr ⟨by simp, h.2⟩
            · have h1 := Kd.N_base HN9.out k he.symm
              have h2 := (HN9.out.1 k he.symm).2.2
              rcases hk with h | h
              · omega
              · rcases h2 with h3 | h3
                · omega
                · exact h3.1 h.1) (fun k hk => by
            have hws := HWS.out
            have hlt4 := HLT3.out
            exact ⟨⟨by omega, by omega⟩, ⟨fun h => by have := HMS.out k h; omega, .inr (by omega)⟩, .inr ⟨by simp, by omega⟩⟩) (Kd.N_below HN10.out HBR.out) (by have := HWS.out; have := HLT3.out; omega) (by omega)
        rw [← ho10] at hN1
        obtain ⟨A7, c7, rfl⟩ := Kd.N_slice hN1
        have hws := HWS.out
        have hlt4 := HLT3.out
        have hblk : ∀ k : Nat, (k = w.heap.size ∨ k = w.heap.size + 1 ∨ (W.heap.size ≤ k ∧ k < W.heap.size + 4) ∨ k ∈ Ms) → w1.heap[k]? = W3.heap[k]? := fun k hk => by
          have hk3 : k < W3.heap.size := by
            rcases hk with h | h | h | h
            · omega
            · omega
            · omega
            · have := HMS.out k h; omega
          exact (hg1.block k (by omega) (hown k hk)).trans (HBR.out.block k hk3)
        have ho1 : w1.heap[w.heap.size + 1]? = some (.cells #[.slice A9 o9.length c9] 40 (0, 0)) := (hblk _ (.inr (.inl rfl))).trans HO.out
        have y0 := (blk_cell ho1 0).trans rfl
        have y0f := blk_frozen ho1 0
        have x0 := kept_cell HBR.out a0
        have hbw1 : Below w.heap.size w w1 := (below_then HIN.out.1 (by omega) HBR.out).grown hg1 (by omega) (fun j hj => by have := Kd.N_base HN9.out j hj; omega)
        have HFIN := Lib.hid (show (StJ w.heap.size w e A11 c11 (fun j => (¬ j ∈ Ms ∧ (okf j ∨ w.heap.size ≤ j)) ∧ (j < W.heap.size ∨ (¬ (pre ++ [((Ax, cx, u) : TabV)]) = [] ∧ W.heap.size + 4 ≤ j))) Ms o10 (w1.setCell ⟨w.heap.size + 1, 0, none⟩ (.slice A7 o10.length c7)) ∧ (w1.setCell ⟨w.heap.size + 1, 0, none⟩ (.slice A7 o10.length c7)).heap[W.heap.size]? = some (.cells #[.slice A0 t.length c0] 26 (0, 0)) ∧ (w1.setCell ⟨w.heap.size + 1, 0, none⟩ (.slice A7 o10.length c7)).heap[W.heap.size + 1]? = some (.cells #[.int .i64 e.f0.f0, .string e.f0.f1, .string e.f0.f2, .int .i64 e.f0.f3, .string e.f0.f4, .int .i64 e.f0.f5, .string e.f0.f6, .bool e.f1, .int .i64 e.f2.f0, .int .i64 e.f2.f1, .string e.f2.f2, .slice A11 e.f2.f3.length c11] 38 (0, 0))) ∧ (w1.setCell ⟨w.heap.size + 1, 0, none⟩ (.slice A7 o10.length c7)).heap[W.heap.size + 2]? = W3.heap[W.heap.size + 2]? ∧ (w1.setCell ⟨w.heap.size + 1, 0, none⟩ (.slice A7 o10.length c7)).heap[W.heap.size + 2 + 1]? = W3.heap[W.heap.size + 2 + 1]? from by
          have hset : ∀ k : Nat, k ≠ w.heap.size + 1 → (w1.setCell ⟨w.heap.size + 1, 0, none⟩ (.slice A7 o10.length c7)).heap[k]? = w1.heap[k]? := fun k hk => Below.heap_setCell w1 ⟨w.heap.size + 1, 0, none⟩ _ k hk
          refine ⟨⟨⟨hbw1.setCell (p := ⟨w.heap.size + 1, 0, none⟩) (Nat.le_succ _) _, ?_, ⟨A7, c7, blk_put ho1 0 _ rfl, Kd.N_far (p := ⟨w.heap.size + 1, 0, none⟩) hN1 (fun j hj => hj.1.2) _⟩, fun D hD => ?_⟩, ?_, ?_⟩, ?_, ?_⟩
          · exact (hset _ (by omega)).trans ((hblk _ (.inl rfl)).trans HIN.out.2.1)
          · exact (hset _ (by have := HMS.out D hD; omega)).trans ((hblk _ (.inr (.inr (.inr hD)))).trans (HIN.out.2.2.1 D hD))
          · exact (hset _ (by omega)).trans ((hblk _ (.inr (.inr (.inl ⟨by omega, by omega⟩)))).trans HIN.out.2.2.2.1)
          · exact (hset _ (by omega)).trans ((hblk _ (.inr (.inr (.inl ⟨by omega, by omega⟩)))).trans HIN.out.2.2.2.2)
          · exact (hset _ (by omega)).trans (hblk _ (.inr (.inr (.inl ⟨by omega, by omega⟩))))
          · exact (hset _ (by omega)).trans (hblk _ (.inr (.inr (.inl ⟨by omega, by omega⟩)))))
        have HRUN := Lib.hid hrun
        clear hN1 hg1 hown hblk hbw1 hni ho10 hrun ho1
        gi_wp2_with (gi_at_builtin; refine wpListIn_append_run _ rfl _ _ 40 40 rfl _ _ rfl rfl HRUN.out ?_)
        exact HFIN.out
      obtain ⟨ad9, Aq, cq, hA9, hc9, hlq, hCq⟩ := at_row (Kd.N_reads' HN9.out).2.2 q (by omega) (by have := HM.out; omega)
      subst hA9
      rw [Int.toNat_natCast] at hc9
      replace hc9 := kept_cell HBR.out hc9
      have b3 : (0 : Int) ≤ q := by omega
      have b4 : (q : Int) < o9.length := by omega
      have HTS := Lib.hid (tab_calls Aq Ax cq cx (rdRow o9 q) u wr (Kd.C_below hCq HBR.out) (Kd.C_below (Kd.F_now HX.out.2.2) HBR.out))
      have hq9 : o9[q]? = some (rdRow o9 q) := by
        have h : q < o9.length := by have := HM.out; omega
        rw [List.getElem?_eq_getElem h]
        congr 1
        simp [rdRow, List.getD_eq_getElem?_getD, List.getElem?_eq_getElem h]
      have HMEM := Lib.hid (List.mem_of_getElem? hq9)
      have HNEX := Lib.hid (fun (h : ¬ rdRow o9 q = u) => (show ¬ u ∈ o9.take (q + 1) from by
        rw [List.take_add_one, hq9, List.mem_append]
        rintro (h1 | h1)
        · exact HNI.out h1
        · exact h (by have h2 : u = rdRow o9 q := (by simpa using h1); exact h2.symm)))
      generalize rdRow o9 q = had at *
      clear hlq hCq hq9
      by_cases hs : had = u
      · have hd : decide (had = u) = true := decide_eq_true hs
        rw [hd] at HTS
        have HMU := Lib.hid (show u ∈ o9 by rw [← hs]; exact HMEM.out)
        clear hs hd
        gi_wp2_with (refine ⟨trivial, ?_⟩; gi_at_call 51; refine (CallsIn.inRound _ (callsIn_wide.2 HTS.out)).mono ?_; rintro r W5 ⟨rfl, hb5⟩; have HB5 := Lib.hid hb5; clear hb5)
        exact HKEEP.out W5 (below_then HBR.out HBR.out.size HB5.out) (HSY.out HMU.out)
      · have hd : decide (had = u) = false := decide_eq_false hs
        rw [hd] at HTS
        have HMU := Lib.hid (HNEX.out hs)
        clear hs hd
        gi_wp2_with (refine ⟨trivial, ?_⟩; gi_at_call 51; refine (CallsIn.inRound _ (callsIn_wide.2 HTS.out)).mono ?_; rintro r W5 ⟨rfl, hb5⟩; have HB5 := Lib.hid hb5; clear hb5)
        go_roundw
        case rel => exact ⟨q + 1, by omega, by go_num, ⟨HMU.out⟩, ⟨below_then HBR.out HBR.out.size HB5.out⟩⟩
        case measure => simp [intOf]; omega
  case done =>
    rintro xs W3 hS ⟨hj, _, _⟩ hd3
    rw [hS, ← HNX.out] at hj
    rw [HL.out] at hd3
    have HJ3 := Lib.hid hj
    have HD3 := Lib.hid hd3
    clear hj hd3 HNX HOUT HOL hS
    go_wp2
    refine (by assumption : ∀ (a : Act) (w : World), Code.wp _ _ _ a w → _) _ _ ?_
    go_wp2
    refine ⟨ts.length - (k + 1), by omega, k + 1, .slice A0 t.length c0, .bool true, .pointer (some (ad.add k)), .slice A0 t.length c0, .slice A0 t.length c0, .agg #[.int .i64 e.f0.f0, .string e.f0.f1, .string e.f0.f2, .int .i64 e.f0.f3, .string e.f0.f4, .int .i64 e.f0.f5, .string e.f0.f6, .bool e.f1, .int .i64 e.f2.f0, .int .i64 e.f2.f1, .string e.f2.f2, .slice A11 e.f2.f3.length c11], .func (.func 69) #[] #[.pointer (some ⟨W.heap.size, 0, none⟩), .pointer (some ⟨W.heap.size + 1, 0, none⟩)], .int .i64 ((k + 1 : Nat) : Int), (W.heap.size + 2) :: Ms, by omega, rfl, ?_, ⟨⟨?_, ?_, ?_⟩⟩⟩
    rotate_left
    · exact List.nodup_cons.2 ⟨fun h => by have := HMS.out _ h; omega, HMN.out⟩
    · intro D hD
      have hlt3 := blk_ltO HD3.out
      rcases List.mem_cons.1 hD with rfl | hD
      · have := HWS.out; omega
      · have := HMS.out D hD; omega
    · obtain ⟨h1, h2, h3, h4⟩ := HJ3.out.mono (ok' := fun j => (¬ j ∈ (W.heap.size + 2) :: Ms ∧ (okf j ∨ w.heap.size ≤ j))) (fun j hj => ⟨fun hm => by
        rcases List.mem_cons.1 hm with rfl | hm
        · have := hj.2; omega
        · exact hj.1.1 hm, hj.1.2⟩)
      refine ⟨h1, h2, h3, fun D hD => ?_⟩
      rcases List.mem_cons.1 hD with rfl | hD
      · exact HD3.out
      · exact h4 D hD
    · rw [HL.out]
      simp
theorem step_calls (ts : List (List S54)) (e : EvT) (A A11 : Option Addr) (c c11 : Nat) (w : World) (hr : Kd.C (Kd.slice 54 k54) w A ts.length ts) (hS : Kd.string.C w A11 e.f2.f3.length e.f2.f3) (hP : ∀ t ∈ ts, PlainT t ∧ t.length ≤ 1000) (hlen : ts.length ≤ 1000000) :
    Calls Try.prog 25 #[.slice A ts.length c, .agg #[.int .i64 e.f0.f0, .string e.f0.f1, .string e.f0.f2, .int .i64 e.f0.f3, .string e.f0.f4, .int .i64 e.f0.f5, .string e.f0.f6, .bool e.f1, .int .i64 e.f2.f0, .int .i64 e.f2.f1, .string e.f2.f2, .slice A11 e.f2.f3.length c11]] w fun r w' => ∃ A' c', r = .returned (.slice A' (stepT ts e).length c') ∧ Kd.C (Kd.slice 54 k54) w' A' (stepT ts e).length (stepT ts e) ∧ Below w.heap.size w w' :=
  (stepF_calls (fun j => j < w.heap.size) ts e A A11 c c11 w (fun _ h => h) (Kd.C_F heap_tab hr) hS hP hlen).mono fun _ _ ⟨A', c', h1, h2, h3⟩ => ⟨A', c', h1, Kd.F_now h2, h3⟩

end Go.Proofs.Ytadhfedbgeenlaa.H
