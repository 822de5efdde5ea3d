/- Parts of the proof, merged: Co, Cp, Cq, Cr, Cs, Ct, Cu, Cv, Cw, Cx. -/
import Derived.Test.YtdbgpakmbjhmgaaK1
import Derived.BigRegion
import Derived.IntWalk
import Derived.Deep.RegionLaw
import Derived.Laws.CopyOwn
import Derived.Maps.OwnOps
import Derived.Maps.Views
/- Sorting members by insertion. -/
namespace Go.Proofs.Ytdbgpakmbjhmgaa.H
open Go.RowKit Go.Proofs.YtdbgpakmbjhmgaaW.PrintWords Go.Proofs.YtdbgpakmbjhmgaaW.PrintLast Go.Proofs.YtdbgpakmbjhmgaaW.PrintMore
set_option linter.unusedVariables false
set_option linter.unusedSimpArgs false

def cmpI (a b : Int) : Int := if a < b then -1 else if b < a then 1 else 0

set_option maxHeartbeats 400000 in
theorem isNaN_calls (a : Int) (w : World) : Calls Try.prog 67 #[.int .i64 a] w fun e w' => e = .returned (.bool false) ∧ w = w' := by
  go_enter Try.func67, Try.ntmps67
  go_wp2
  go_ret
  exact ⟨rfl, rfl⟩
set_option maxHeartbeats 400000 in
theorem compare_calls (a b : Int) (w : World) : Calls Try.prog 46 #[.int .i64 a, .int .i64 b] w fun e w' => e = .returned (.int .i64 (cmpI a b)) ∧ w = w' := by
  rcases Int.lt_trichotomy a b with h | h | h
  · have HF := Lib.hid (show cmpI a b = -1 by simp [cmpI, h])
    go_enter Try.func46, Try.ntmps46
    go_wp2_with (go_at_call 67; refine (isNaN_calls _ _).mono ?_; rintro e W' ⟨rfl, rfl⟩)
    go_ret
    exact ⟨ret_int HF.out.symm, rfl⟩
  · subst h
    have HF := Lib.hid (show cmpI a a = 0 by simp [cmpI])
    go_enter Try.func46, Try.ntmps46
    go_wp2_with (go_at_call 67; refine (isNaN_calls _ _).mono ?_; rintro e W' ⟨rfl, rfl⟩)
    go_ret
    exact ⟨ret_int HF.out.symm, rfl⟩
  · have HF := Lib.hid (show cmpI a b = 1 by simp [cmpI, h]; omega)
    have h2 : ¬ a < b := by omega
    go_enter Try.func46, Try.ntmps46
    go_wp2_with (go_at_call 67; refine (isNaN_calls _ _).mono ?_; rintro e W' ⟨rfl, rfl⟩)
    go_ret
    exact ⟨ret_int HF.out.symm, rfl⟩
set_option maxHeartbeats 400000 in
theorem joinCmp_calls (x y : S45) (w : World) : Calls Try.prog 54 #[.agg #[.int .i64 x.f0, .int .i64 x.f1], .agg #[.int .i64 y.f0, .int .i64 y.f1]] w fun e w' => e = .returned (.int .i64 (cmpI x.f0 y.f0)) ∧ Below w.heap.size w w' := by
  have HB := Lib.hid (below_alloc (below_alloc (Below.refl w.heap.size w) (.cells #[.int .i64 x.f0, .int .i64 x.f1] 45)) (.cells #[.int .i64 y.f0, .int .i64 y.f1] 45))
  go_enter Try.func54, Try.ntmps54
  go_wp2_with (go_at_call 46; refine (compare_calls _ _ _).mono ?_; rintro e W' ⟨rfl, rfl⟩)
  go_ret
  exact ⟨rfl, HB.out⟩

/-- The last of some members, moved down to its place. -/
def sinkM (l : List S45) : Nat → List S45
  | 0 => l
  | k + 1 => if (rd_T45 l (k + 1 : Nat)).f0 < (rd_T45 l k).f0 then sinkM ((l.set (k + 1) (rd_T45 l k)).set k (rd_T45 l (k + 1 : Nat))) k else l
def sortM (l : List S45) (i : Nat) : Nat → List S45
  | 0 => l
  | d + 1 => sortM (sinkM l i) (i + 1) d
theorem sinkM_length (l : List S45) (k : Nat) : (sinkM l k).length = l.length := by
  induction k generalizing l with
  | zero => rfl
  | succ k ih => rw [sinkM]; split <;> simp [ih]

theorem member_cells {W : World} {base g n cap : Nat} {ok : Nat → Prop} {xs : List S45} (h : Kd.R k45 45 W base ok (.slice (some ⟨g, 0, none⟩) n cap) xs) (i : Nat) (h1 : i < n) :
    W.cell? ⟨g, i * 2, none⟩ = some (.int .i64 (rd_T45 xs i).f0) ∧ W.cell? ⟨g, i * 2 + 1, none⟩ = some (.int .i64 (rd_T45 xs i).f1) ∧ W.frozen? ⟨g, i * 2, none⟩ = false ∧ W.frozen? ⟨g, i * 2 + 1, none⟩ = false := by
  obtain ⟨c, hcl, hM, hcc, hfr⟩ := Kd.R_elem h z45 (i : Int) (by omega) (by omega)
  obtain rfl := k45_openM hM
  rw [Int.toNat_natCast] at hcc hfr
  exact ⟨hcc 0 _ rfl, hcc 1 _ rfl, hfr 0, hfr 1⟩
theorem R_member {W : World} {base g n cap : Nat} {ok : Nat → Prop} {xs : List S45} (h : Kd.R k45 45 W base ok (.slice (some ⟨g, 0, none⟩) n cap) xs) (i : Nat) (h1 : i < n) (x : S45) :
    Kd.R k45 45 ((W.setCell ⟨g, i * 2, none⟩ (.int .i64 x.f0)).setCell ⟨g, i * 2 + 1, none⟩ (.int .i64 x.f1)) base ok (.slice (some ⟨g, 0, none⟩) n cap) (xs.set i x) := by
  obtain ⟨c, hcl, hM, hcc, hfr⟩ := Kd.R_elem h z45 (i : Int) (by omega) (by omega)
  obtain rfl := k45_openM hM
  have := (Kd.R_seg h (i : Int) (by omega) (by omega) (seg := [.int .i64 x.f0, .int .i64 x.f1]) (j := 0) (okp := fun _ => False) rfl hcc (by show 0 + 2 ≤ 2; omega) (k45_mkM _ _ _ x) (fun _ h => h.elim)).1
  rw [Int.toNat_natCast] at this
  exact this

/-- The row at g is swapped and compared; nothing else of what was is turned. -/
def Row (w0 : World) (b g n cap : Nat) (l : List S45) (W : World) : Prop :=
  W.os = w0.os ∧ W.tape = w0.tape ∧ W.output = w0.output ∧ w0.heap.size ≤ W.heap.size ∧ (∀ k, k < w0.heap.size → k ≠ g → W.heap[k]? = w0.heap[k]?) ∧ Kd.R k45 45 W b (fun _ => True) (.slice (some ⟨g, 0, none⟩) n cap) l
theorem Row.below {w0 : World} {b g n cap : Nat} {l : List S45} {W W2 : World} (h : Row w0 b g n cap l W) (hb : Below W.heap.size W W2) : Row w0 b g n cap l W2 := by
  obtain ⟨h1, h2, h3, h4, h5, h6⟩ := h
  exact ⟨hb.os.trans h1, hb.tape.trans h2, hb.output.trans h3, Nat.le_trans h4 hb.size, fun k hk hne => (hb.block k (by omega)).trans (h5 k hk hne), Kd.R_below h6 hb⟩

theorem Row.sets {w0 : World} {b g n cap o1 o2 o3 o4 : Nat} {v1 v2 v3 v4 : Value} {l l' : List S45} {W : World} (h : Row w0 b g n cap l W)
    (hR : Kd.R k45 45 ((((W.setCell ⟨g, o1, none⟩ v1).setCell ⟨g, o2, none⟩ v2).setCell ⟨g, o3, none⟩ v3).setCell ⟨g, o4, none⟩ v4) b (fun _ => True) (.slice (some ⟨g, 0, none⟩) n cap) l') :
    Row w0 b g n cap l' ((((W.setCell ⟨g, o1, none⟩ v1).setCell ⟨g, o2, none⟩ v2).setCell ⟨g, o3, none⟩ v3).setCell ⟨g, o4, none⟩ v4).drew := by
  obtain ⟨h1, h2, h3, h4, h5, h6⟩ := h
  refine ⟨h1, h2, h3, by simpa [World.setCell] using h4, fun k hk hne => ?_, hR⟩
  have e := fun (W : World) (o : Nat) (v : Value) => Below.heap_setCell W ⟨g, o, none⟩ v k hne
  show ((((W.setCell ⟨g, o1, none⟩ v1).setCell ⟨g, o2, none⟩ v2).setCell ⟨g, o3, none⟩ v3).setCell ⟨g, o4, none⟩ v4).heap[k]? = _
  rw [e, e, e, e]
  exact h5 k hk hne

set_option maxHeartbeats 4000000 in
set_option maxRecDepth 100000 in
theorem insertion_calls (w0 : World) (b g n cap : Nat) (l : List S45) (w : World) (hR : Row w0 b g n cap l w) (hn : n ≤ 100) :
    Calls Try.prog 73 #[.slice (some ⟨g, 0, none⟩) n cap, .int .i64 0, .int .i64 n, .func (.func 54) #[] #[]] w fun e w' => e = .returned (.tuple #[]) ∧ Row w0 b g n cap (sortM l 1 (n - 1)) w' := by
  have hln : l.length = n := (Kd.R_reads' hR.2.2.2.2.2).1.symm
  have HR := Lib.hid hR; clear hR
  have HLN := Lib.hid hln; clear hln
  go_enter Try.func73, Try.ntmps73
  go_wp2
  go_loopw [8] (fun v8 W => ∃ (i : Nat) (li : List S45), 1 ≤ i ∧ v8 = .int .i64 i ∧ Aside0 (sortM l 1 (n - 1) = sortM li i (n - i)) ∧ Aside0 (Row w0 b g n cap li W)) (fun v8 _ => n - (intOf v8).toNat)
  case atStart => exact ⟨1, l, Nat.le_refl _, rfl, ⟨rfl⟩, ⟨HR.out⟩⟩
  case round =>
    obtain ⟨i, li, hi1, rfl, HE, HRi⟩ := hrel
    by_cases hlt : i < n
    · go_wp2
      obtain ⟨wo, rfl⟩ : ∃ wo : World, wo = wr := ⟨_, rfl⟩
      go_loopw [9] (fun v9 W => ∃ (j : Nat) (lj : List S45), j < n ∧ v9 = .int .i64 j ∧ Aside0 (sinkM li i = sinkM lj j) ∧ Aside0 (Row w0 b g n cap lj W)) (fun v9 _ => (intOf v9).toNat)
      case atStart => exact ⟨i, li, hlt, rfl, ⟨rfl⟩, ⟨HRi.out⟩⟩
      case round =>
        obtain ⟨j, lj, hj, rfl, HEj, HRj⟩ := hrel
        rcases j with _ | k
        · rw [show ((0 : Nat) : Int) = 0 from rfl]
          have HI := Lib.hid (HEj.out.trans (show sinkM lj 0 = lj from rfl))
          have hd : decide ((0 : Int) < 0) = false := by decide
          go_wp2_with fail
          go_quiet (fail)
          go_wp2
          go_roundw
          case rel => exact ⟨i + 1, lj, by omega, by go_num, ⟨by rw [HE.out, show n - i = (n - (i + 1)) + 1 by omega, sortM, HI.out]⟩, ⟨(Row.below HRj.out (pw_below_drewN (Below.refl _ _) _))⟩⟩
          case measure => simp [intOf]; omega
        · rw [show ((k + 1 : Nat) : Int) = (k : Int) + 1 from by omega]
          obtain ⟨a0, a1, a2, a3⟩ := member_cells HRj.out.2.2.2.2.2 (k + 1) hj
          obtain ⟨b0, b1, b2, b3⟩ := member_cells HRj.out.2.2.2.2.2 k (by omega)
          have HSK := Lib.hid (show sinkM lj (k + 1) = if (rd_T45 lj (k + 1 : Nat)).f0 < (rd_T45 lj k).f0 then sinkM ((lj.set (k + 1) (rd_T45 lj k)).set k (rd_T45 lj (k + 1 : Nat))) k else lj from rfl)
          have HR1 := Lib.hid (R_member (R_member HRj.out.2.2.2.2.2 (k + 1) hj (rd_T45 lj k)) k (by omega) (rd_T45 lj (k + 1 : Nat)))
          generalize rd_T45 lj (k + 1 : Nat) = x at *
          generalize rd_T45 lj k = y at *
          have hd : decide ((0 : Int) < (k : Int) + 1) = true := decide_eq_true (by omega)
          have c1 : (0 : Int) ≤ (k : Int) + 1 := by omega
          have c2 : (k : Int) + 1 < (n : Int) := by omega
          have c3 : IntKind.i64.wrap ((k : Int) + 1 - 1) = (k : Int) := by rw [show (k : Int) + 1 - 1 = k from by omega]; exact IntWalk.i64_in _ (by omega)
          have c3b : IntKind.i64.wrap (k : Int) = (k : Int) := IntWalk.i64_in _ (by omega)
          have c4 : (k : Int) < (n : Int) := by omega
          have c5 : ((k : Int) + 1).toNat = k + 1 := by omega
          have HC5 := Lib.hid hd
          have hkp : ∀ W W2 : World, (W.cell? ⟨g, (k + 1) * 2, none⟩ = some (.int .i64 x.f0) ∧ W.cell? ⟨g, (k + 1) * 2 + 1, none⟩ = some (.int .i64 x.f1) ∧ W.cell? ⟨g, k * 2, none⟩ = some (.int .i64 y.f0) ∧ W.cell? ⟨g, k * 2 + 1, none⟩ = some (.int .i64 y.f1)) → Below W.heap.size W W2 →
              (W2.cell? ⟨g, (k + 1) * 2, none⟩ = some (.int .i64 x.f0) ∧ W2.cell? ⟨g, (k + 1) * 2 + 1, none⟩ = some (.int .i64 x.f1) ∧ W2.cell? ⟨g, k * 2, none⟩ = some (.int .i64 y.f0) ∧ W2.cell? ⟨g, k * 2 + 1, none⟩ = some (.int .i64 y.f1)) := fun W W2 h hb => ⟨kept_cell hb h.1, kept_cell hb h.2.1, kept_cell hb h.2.2.1, kept_cell hb h.2.2.2⟩
          have HKP := Lib.hid hkp; clear hkp
          have hs0 := And.intro a0 (And.intro a1 (And.intro b0 b1))
          go_wp2_with fail
          go_region_held3 (fun W => W.cell? ⟨g, (k + 1) * 2, none⟩ = some (.int .i64 x.f0) ∧ W.cell? ⟨g, (k + 1) * 2 + 1, none⟩ = some (.int .i64 x.f1) ∧ W.cell? ⟨g, k * 2, none⟩ = some (.int .i64 y.f0) ∧ W.cell? ⟨g, k * 2 + 1, none⟩ = some (.int .i64 y.f1))
            (first | assumption | go_keep)
            (first | (go_at_call 54; refine (joinCmp_calls x y _).mono ?_; rintro e W2 ⟨rfl, hb2⟩; have hs2 := HKP.out _ _ (by assumption) hb2))
          have HRW := Lib.hid (Row.below HRj.out (show Below wr.heap.size wr W2 from ⟨hb2.os, hb2.tape, hb2.output, hb2.size, hb2.block⟩))
          have HR2 := Lib.hid (R_member (R_member HRW.out.2.2.2.2.2 (k + 1) hj y) k (by omega) x)
          have HF := Lib.hid (member_cells HRW.out.2.2.2.2.2 (k + 1) hj)
          have HF2 := Lib.hid (member_cells HRW.out.2.2.2.2.2 k (by omega))
          clear a0 a1 a2 a3 b0 b1 b2 b3 hs0 hb2
          by_cases hxy : x.f0 < y.f0
          · have hq : cmpI x.f0 y.f0 < 0 := by simp [cmpI, hxy]
            have HQ := Lib.hid (HSK.out.trans (if_pos hxy))
            go_wp2_with fail
            obtain ⟨a0, a1, b0, b1⟩ := hs2
            have a2 := HF.out.2.2.1
            have a3 := HF.out.2.2.2
            have b2 := HF2.out.2.2.1
            have b3 := HF2.out.2.2.2
            go_region
            go_wp2
            go_roundw
            case rel => exact ⟨k, _, by omega, rfl, ⟨HEj.out.trans HQ.out⟩, ⟨Row.sets HRW.out HR2.out⟩⟩
            case measure => simp [intOf]
          · have hq : 0 ≤ cmpI x.f0 y.f0 := by simp [cmpI, hxy]; split <;> omega
            have HQ := Lib.hid (HEj.out.trans (HSK.out.trans (if_neg hxy)))
            go_wp2
            go_roundw
            case rel => exact ⟨i + 1, lj, by omega, by go_num, ⟨by rw [HE.out, show n - i = (n - (i + 1)) + 1 by omega, sortM, HQ.out]⟩, ⟨HRW.out⟩⟩
            case measure => simp [intOf]; omega
    · have hz : n - i = 0 := by omega
      have HI := Lib.hid (HE.out.trans (by rw [hz]; rfl : sortM li i (n - i) = li)); clear hz
      go_wp2
      go_end0
      exact ⟨rfl, by rw [HI.out]; exact HRi.out⟩
end Go.Proofs.Ytdbgpakmbjhmgaa.H

/- SortFunc of at most twelve members. -/
namespace Go.Proofs.Ytdbgpakmbjhmgaa.H
open Go.RowKit Go.Proofs.YtdbgpakmbjhmgaaW.PrintWords Go.Proofs.YtdbgpakmbjhmgaaW.PrintLast Go.Proofs.YtdbgpakmbjhmgaaW.PrintMore
set_option linter.unusedVariables false
set_option linter.unusedSimpArgs false

def SomeI (w : World) (e : Ending) (w' : World) : Prop := ∃ r : Int, e = .returned (.int .i64 r) ∧ w = w'
set_option maxHeartbeats 1000000 in
set_option maxRecDepth 100000 in
theorem len64_calls (x : Int) (h0 : 0 ≤ x) (h1 : x ≤ 8) (w : World) : Calls Try.prog 82 #[.int .u64 x] w (SomeI w) := by
  have h : x = 0 ∨ x = 1 ∨ x = 2 ∨ x = 3 ∨ x = 4 ∨ x = 5 ∨ x = 6 ∨ x = 7 ∨ x = 8 := by omega
  rcases h with rfl | rfl | rfl | rfl | rfl | rfl | rfl | rfl | rfl
  all_goals
    go_enter Try.func82, Try.ntmps82
    go_wp2
    go_ret
    exact ⟨_, rfl, rfl⟩
set_option maxHeartbeats 1000000 in
theorem len_calls (x : Int) (h0 : 0 ≤ x) (h1 : x ≤ 8) (w : World) : Calls Try.prog 69 #[.int .u64 x] w (SomeI w) := by
  have HC := Lib.hid (len64_calls x h0 h1 w)
  go_enter Try.func69, Try.ntmps69
  go_wp2_with fail
  refine HC.out.mono ?_
  rintro e w' ⟨r, rfl, rfl⟩
  go_wp2
  go_ret
  exact ⟨r, rfl, rfl⟩

set_option maxHeartbeats 1000000 in
set_option maxRecDepth 100000 in
theorem pdq_calls (w0 : World) (b g n cap : Nat) (l : List S45) (w : World) (lim : Int) (hR : Row w0 b g n cap l w) (hn : n ≤ 12) :
    Calls Try.prog 68 #[.slice (some ⟨g, 0, none⟩) n cap, .int .i64 0, .int .i64 n, .int .i64 lim, .func (.func 54) #[] #[]] w fun e w' => e = .returned (.tuple #[]) ∧ Row w0 b g n cap (sortM l 1 (n - 1)) w' := by
  have HC := Lib.hid (insertion_calls w0 b g n cap l w hR (by omega))
  go_enter Try.func68, Try.ntmps68
  go_wp2
  refine wp_loop_rounds 1 ?_
  rw [rounds_succ]
  go_wp2_with fail
  refine HC.out.mono ?_
  rintro e w' ⟨rfl, hr⟩
  go_wp2
  exact bodyPost_ret (v := .tuple #[]) (results_list (rs := []) Try.results68 (by simp) .nil) rfl ⟨rfl, hr⟩

set_option maxHeartbeats 1000000 in
theorem sort_calls (w0 : World) (b g n cap : Nat) (l : List S45) (w : World) (hR : Row w0 b g n cap l w) (hn : n ≤ 8) :
    Calls Try.prog 53 #[.slice (some ⟨g, 0, none⟩) n cap, .func (.func 54) #[] #[]] w fun e w' => e = .returned (.tuple #[]) ∧ Row w0 b g n cap (sortM l 1 (n - 1)) w' := by
  have HL := Lib.hid (len_calls (n : Int) (by omega) (by omega) w)
  have HC := Lib.hid (fun lim => pdq_calls w0 b g n cap l w lim hR (by omega))
  clear hR
  go_enter Try.func53, Try.ntmps53
  go_wp2_with fail
  refine HL.out.mono ?_
  rintro e w' ⟨r, rfl, rfl⟩
  go_wp2_with fail
  refine (HC.out r).mono ?_
  rintro e w' ⟨rfl, hr⟩
  go_wp2
  go_end0
  exact ⟨rfl, hr⟩
end Go.Proofs.Ytdbgpakmbjhmgaa.H

/- Join. -/
namespace Go.Proofs.Ytdbgpakmbjhmgaa.H
open Go.RowKit Go.Proofs.YtdbgpakmbjhmgaaW.PrintWords Go.Proofs.YtdbgpakmbjhmgaaW.PrintLast Go.Proofs.YtdbgpakmbjhmgaaW.PrintMore
set_option linter.unusedVariables false
set_option linter.unusedSimpArgs false

section
variable {P : Program} {ops : Array Oper} {rest : List Oper} {o : Oper} {a : Act} {Q : Exit → Act → World → Prop} {Kc : Act → World → Prop} {α : Type}
theorem append_drew (d : Kd α) {w0 W : World} (base : Nat) (hw : Region.wanted o (yielded ops a.tmps) = true) (s x : Operand) (t e : TypeId) (z : Value) (bytes : Nat)
    (ho : o.op = .call { callee := .builtin .append, args := #[s, x], argTypes := #[t, t] })
    (ht : P.underlying t = some (.slice e)) (hinfo : (P.info? e).map (fun i => (i.zero, i.size, i.bytes)) = some (some z, d.sz, bytes)) (hz : z.cells.size = d.sz) (hs0 : 0 < d.sz) (hb0 : 0 < bytes)
    (v : Value) (xs : List α) (p : α) (cs : List Value) (ok okp : Nat → Prop) (hs : a.eval s = v) (hx : a.eval x = .slice (some ⟨W.heap.size, 0, none⟩) 1 1) (hp : d.M W.drew base okp p cs) (hokp : ∀ k, okp k → ok k ∧ some k ≠ v.ownBlock) (hfresh : ∀ k, W.heap.size ≤ k → ok k)
    (HO : d.R e W base ok v xs) (HB : Below base w0 W) (hbase : base ≤ W.heap.size) (hl : (xs.length + 1) * bytes ≤ 140737488355328)
    (h : ∀ v1 w1, d.R e w1 base ok v1 (xs ++ [p]) → Below base w0 w1 → W.grownBy w1 v.ownBlock → (v1.ownBlock = v.ownBlock ∨ ∃ b, v1.ownBlock = some b ∧ W.heap.size ≤ b) → Kc (a.put o.dst v1) w1) :
    if Region.wanted o (yielded ops a.tmps) = true then Oper.wp P o a ((W.alloc (.cells cs.toArray e)).drew) Kc Q else Kc (a.put o.dst undef) ((W.alloc (.cells cs.toArray e)).drew) :=
  Kd.R_append_step (W := W.drew) d base hw s x t e z bytes ho ht hinfo hz hs0 hb0 v xs p cs ok okp hs hx hp hokp hfresh (Kd.R_move HO (fun _ _ => rfl)) (below_drew HB) hbase hl (fun v1 w1 h1 h2 h3 h4 => h v1 w1 h1 h2 ⟨h3.os, h3.tape, h3.output, h3.size, h3.block⟩ h4)
end

def fJoin (name bin : Int) (lv : Int) (ms : List S45) (ps : List S48) : Int × Int × List S45 × List S48 :=
  if name < 1 then (1, lv, ms, ps) else if 100 < name then (1, lv, ms, ps) else if version bin = false then (1, lv, ms, ps) else if hasM ms name = true then (1, lv, ms, ps)
  else if bin < lv then (22, lv, ms, ps) else if 8 ≤ ms.length then (50, lv, ms, ps) else (0, lv, sortM (ms ++ [⟨name, bin⟩]) 1 ms.length, ps)

theorem enter_join1 : ∀ args w, (callFunc 52 args).run Try.prog w = .ok (.enter 52 args) w := enters_of Try.func52 (by kernel_rfl) rfl

/-- Behind the append. -/
def MidJ (w0 : World) (g : Nat) (lv : Int) (l : List S45) (ps : List S48) (W : World) : Prop :=
  ∃ A5 c5 v4, W.heap[g]? = some (.cells #[.int .i64 lv, .slice A5 l.length c5, v4] 26 (0, 0)) ∧ Kd.R k45 45 W w0.heap.size (fun _ => True) (.slice A5 l.length c5) l ∧ Kd.R k48 48 W w0.heap.size (fun _ => True) v4 ps ∧ Below w0.heap.size w0 W
theorem sortM_length (l : List S45) : ∀ (d i : Nat), (sortM l i d).length = l.length
  | 0, _ => rfl
  | d + 1, i => by rw [sortM, sortM_length (sinkM l i) d (i + 1), sinkM_length]
theorem MidJ.of {w0 W2 : World} {g c5 n : Nat} {A5 : Option Addr} {lv : Int} {l : List S45} {ps : List S48} {x v4 : Value} (hn : n = l.length) (hg : W2.heap[g]? = some (.cells #[.int .i64 lv, x, v4] 26 (0, 0))) (hgb : w0.heap.size ≤ g)
    (h1 : Kd.R k45 45 W2 w0.heap.size (fun _ => True) (.slice A5 l.length c5) l) (h2 : Kd.R k48 48 W2 w0.heap.size (fun _ => True) v4 ps) (hb : Below w0.heap.size w0 W2) :
    MidJ w0 g lv l ps (W2.setCell ⟨g, 1, none⟩ (.slice A5 n c5)) := by
  subst hn
  exact ⟨A5, c5, v4, by simpa using blk_set hg 1 (.slice A5 l.length c5), Kd.R_set h1 hg (by decide) 1 _, Kd.R_set h2 hg (by decide) 1 _, below_set hb hgb⟩

set_option maxHeartbeats 4000000 in
set_option maxRecDepth 100000 in
theorem join1_does (name bin : Int) (B1 B2 : Nat) (w0 : World) (hn : w0.cell? ⟨B1, 0, none⟩ = some (.int .i64 name)) (hbn : w0.cell? ⟨B2, 0, none⟩ = some (.int .i64 bin)) :
    Does w0 52 #[.pointer (some ⟨B1, 0, none⟩), .pointer (some ⟨B2, 0, none⟩)] (fJoin name bin) := by
  intro W g lv v1 v2 ms ps hb hg hgb ho1 ho2 hrt
  show Calls Try.prog 52 #[.pointer (some ⟨g, 0, none⟩), .pointer (some ⟨B1, 0, none⟩), .pointer (some ⟨B2, 0, none⟩)] W _
  have hB1 := World.block_lt_of_cell? w0 _ hn
  have hB2 := World.block_lt_of_cell? w0 _ hbn
  obtain ⟨A3, c3, rfl⟩ := Kd.R_slice ho1
  obtain ⟨A4, c4, rfl⟩ := Kd.R_slice ho2
  have HC := Lib.hid (at_calls A3 c3 ms name W.drew (Kd.R_reads' ho1).2.2)
  have HG := Lib.hid hg
  have HB := Lib.hid hb
  have HO1 := Lib.hid ho1
  have HO2 := Lib.hid ho2
  have HN := Lib.hid hn
  have HBN := Lib.hid hbn
  have HFX := Lib.hid (show fJoin name bin lv ms ps = if name < 1 then (1, lv, ms, ps) else if 100 < name then (1, lv, ms, ps) else if version bin = false then (1, lv, ms, ps) else if hasM ms name = true then (1, lv, ms, ps)
    else if bin < lv then (22, lv, ms, ps) else if 8 ≤ ms.length then (50, lv, ms, ps) else (0, lv, sortM (ms ++ [⟨name, bin⟩]) 1 ms.length, ps) from rfl)
  obtain ⟨g0, g1, g2, _, _, _, _⟩ := three_cells hg
  have n0 := (hb.cell (p := ⟨B1, 0, none⟩) hB1).trans hn
  have n1 := (hb.cell (p := ⟨B2, 0, none⟩) hB2).trans hbn
  clear hg hb ho1 ho2 hrt hn hbn
  generalize hfr : fJoin name bin lv ms ps = r at *
  clear hfr
  go_enter Try.func52, Try.ntmps52
  go_wp2_with fail
  go_region_held3 (fun W' => W'.cell? ⟨g, 1, none⟩ = some (.slice A3 ms.length c3) ∧ W'.cell? ⟨B1, 0, none⟩ = some (.int .i64 name))
    (first | go_keep | trivial)
    (first | (go_at_call 35; refine HC.out.mono ?_; rintro e W1 ⟨rfl, hb1⟩; have q := And.intro ((kept_cell hb1 g1)) (kept_cell hb1 n0)))
  have HB1 := Lib.hid (below_then HB.out HB.out.size (show Below W.heap.size W W1 from ⟨hb1.os, hb1.tape, hb1.output, hb1.size, hb1.block⟩))
  have HG1 := Lib.hid (kept_on hb1 HG.out)
  have HO3 := Lib.hid (Kd.R_below (show Kd.R k45 45 W.drew w0.heap.size (fun _ => True) (.slice A3 ms.length c3) ms from HO1.out) hb1)
  have HO4 := Lib.hid (Kd.R_below (show Kd.R k48 48 W.drew w0.heap.size (fun _ => True) (.slice A4 ps.length c4) ps from HO2.out) hb1)
  clear g0 g1 g2 n0 n1 q hb1
  have n0 := (HB1.out.cell (p := ⟨B1, 0, none⟩) hB1).trans HN.out
  have n1 := (HB1.out.cell (p := ⟨B2, 0, none⟩) hB2).trans HBN.out
  obtain ⟨g0, g1, g2, q3, q4, q5, q6⟩ := three_cells HG1.out
  have hend : ∀ (k : Int) (e : Ending) (W2 : World), r = (k, lv, ms, ps) → ¬ k = 0 → e = .returned (.int .i64 k) → Below w0.heap.size w0 W2 → e = .returned (.int .i64 r.1) ∧ Below w0.heap.size w0 W2 ∧
      (r.1 = 0 → ∃ u1 u2, W2.heap[g]? = some (.cells #[.int .i64 r.2.1, u1, u2] 26 (0, 0)) ∧ Kd.R k45 45 W2 w0.heap.size (fun _ => True) u1 r.2.2.1 ∧ Kd.R k48 48 W2 w0.heap.size (fun _ => True) u2 r.2.2.2) := by
    intro k e W2 hr hk he hb
    subst hr
    exact ⟨he, hb, fun h => absurd h hk⟩
  have HEND := Lib.hid hend; clear hend
  by_cases t1 : name < 1
  · have HR := Lib.hid (HFX.out.trans (if_pos t1))
    go_wp2
    go_ret
    exact HEND.out 1 _ _ HR.out (by decide) rfl HB1.out
  by_cases t2 : 100 < name
  · have HR := Lib.hid (HFX.out.trans ((if_neg t1).trans (if_pos t2)))
    go_wp2
    go_ret
    exact HEND.out 1 _ _ HR.out (by decide) rfl HB1.out
  have HX2 := Lib.hid (HFX.out.trans ((if_neg t1).trans (if_neg t2))); clear HFX
  replace t1 : 1 ≤ name := by omega
  replace t2 : name ≤ 100 := by omega
  go_wp2_with fail
  refine (version_calls _ _).mono ?_
  rintro e W' ⟨rfl, rfl⟩
  cases hv : version bin
  · have HR := Lib.hid (HX2.out.trans (if_pos hv))
    go_wp2
    go_ret
    exact HEND.out 1 _ _ HR.out (by decide) rfl HB1.out
  have HX3 := Lib.hid (HX2.out.trans (if_neg (by rw [hv]; decide))); clear hv HX2
  rcases hh : hasM ms name with _ | _
  rotate_left
  · have HR := Lib.hid (HX3.out.trans (if_pos hh))
    go_wp2
    go_ret
    exact HEND.out 1 _ _ HR.out (by decide) rfl HB1.out
  have HX4 := Lib.hid (HX3.out.trans (if_neg (by rw [hh]; decide))); clear hh HX3
  by_cases t3 : bin < lv
  · have HR := Lib.hid (HX4.out.trans (if_pos t3))
    go_wp2_with fail
    go_quiet (fail)
    go_wp2
    go_ret
    exact HEND.out 22 _ _ HR.out (by decide) rfl (pw_below_drewN HB1.out _)
  have HX5 := Lib.hid (HX4.out.trans (if_neg t3)); clear HX4
  by_cases t4 : 8 ≤ ms.length
  · have HR := Lib.hid (HX5.out.trans (if_pos t4))
    go_wp2_with fail
    go_quiet (fail)
    go_wp2
    go_ret
    exact HEND.out 50 _ _ HR.out (by decide) rfl (pw_below_drewN HB1.out _)
  have HX6 := Lib.hid (HX5.out.trans (if_neg t4)); clear HX5
  have t5 : ms.length < 8 := by omega
  go_wp2_with fail
  go_quiet (fail)
  go_upto_region 11 with (fail)
  have HBq := Lib.hid (pw_below_drewN HB1.out nq)
  have HGq := Lib.hid (show (W1.drewN nq).heap[g]? = _ from HG1.out)
  have HO3q := Lib.hid (show Kd.R k45 45 (W1.drewN nq) w0.heap.size (fun _ => True) (.slice A3 ms.length c3) ms from HO3.out)
  have HO4q := Lib.hid (show Kd.R k48 48 (W1.drewN nq) w0.heap.size (fun _ => True) (.slice A4 ps.length c4) ps from HO4.out)
  clear g0 g1 g2 q3 q4 q5 q6 n0 n1
  generalize W1.drewN nq = W3 at *
  have n0 := (HBq.out.cell (p := ⟨B1, 0, none⟩) hB1).trans HN.out
  have n1 := (HBq.out.cell (p := ⟨B2, 0, none⟩) hB2).trans HBN.out
  have hbase := HBq.out.size
  obtain ⟨g0, g1, g2, q3, q4, q5, q6⟩ := three_cells HGq.out
  go_cut [48] (fun v48 W => MidJ w0 g lv (ms ++ [⟨name, bin⟩]) ps W)
  case first =>
   have hne := Lib.hid (Kd.R_ne HO3q.out HGq.out (by decide))
   go_region_law (refine append_drew k45 (w0 := w0) w0.heap.size (by rfl) (.tmp 43) (.tmp 47) 23 45 (.agg #[(.int .i64 0), (.int .i64 0)]) 16 (by rfl) Try.underlying23 info45 (by rfl) (by decide) (by omega) (.slice A3 ms.length c3) ms ⟨name, bin⟩ [.int .i64 name, .int .i64 bin] (fun _ => True) (fun _ => False) (by rfl) (by rfl) (k45_mkM _ _ _ ⟨name, bin⟩) (fun _ h => h.elim) (fun _ _ => trivial) HO3q.out HBq.out hbase (by omega) ?_; intro v2 w2 ho hb hg hat; obtain ⟨A5, c5, rfl⟩ := Kd.R_slice ho; have HGw := Lib.hid ((hg.block g (blk_lt HGq.out) hne.out).trans HGq.out); obtain ⟨x0, x1, x2, x3, x4, x5, x6⟩ := three_cells HGw.out)
   all_goals go_wp2
   all_goals go_meet
   all_goals (case rel => exact MidJ.of (by simp) HGw.out hgb ho (Kd.R_over' HO4q.out (Kd.R_typed HO3q.out) (by decide) hg) hb)
  case rest =>
    obtain ⟨A5, c5, v4, hg5, ho5, ho6, hb5⟩ := hcut
    have hl5 : (ms ++ [(⟨name, bin⟩ : S45)]).length = ms.length + 1 := by simp
    obtain ⟨gg, cc, he, hgg, hgl, cells, hcells⟩ := Kd.R_form ho5 (by rw [hl5]; omega)
    injection he with he1 _ he3
    subst he1; subst he3
    obtain ⟨A6, c6, rfl⟩ := Kd.R_slice ho6
    have HRow := Lib.hid (show Row wc w0.heap.size gg (ms ++ [(⟨name, bin⟩ : S45)]).length c5 (ms ++ [⟨name, bin⟩]) wc from ⟨rfl, rfl, rfl, Nat.le_refl _, fun _ _ _ => rfl, ho5⟩)
    have HSO := Lib.hid (sort_calls wc w0.heap.size gg (ms ++ [(⟨name, bin⟩ : S45)]).length c5 (ms ++ [⟨name, bin⟩]) wc HRow.out (by rw [hl5]; omega))
    have hgne : g ≠ gg := fun he => by have h := hg5; rw [he, hcells] at h; injection h with h; injection h with _ h; exact absurd h (by decide)
    have HB5 := Lib.hid hb5
    have HO6 := Lib.hid (Kd.R_types ho6 hcells (by decide))
    have HG5 := Lib.hid hg5
    have HL5 := Lib.hid hl5
    clear g0 g1 g2 q3 q4 q5 q6 n0 n1 hb5 ho5 ho6 hcells hl5
    obtain ⟨g0, g1, g2, q3, q4, q5, q6⟩ := three_cells hg5
    clear hg5
    generalize hlen : (ms ++ [(⟨name, bin⟩ : S45)]).length = nn at *
    have HLN := Lib.hid hlen; clear hlen
    go_wp2_with fail
    refine HSO.out.mono ?_
    rintro e W6 ⟨rfl, hrow⟩
    have HW6 := Lib.hid hrow; clear hrow
    go_wp2
    go_ret
    have hr : r = (0, lv, sortM (ms ++ [⟨name, bin⟩]) 1 ms.length, ps) := HX6.out
    obtain ⟨y1, y2, y3, y4, y5, y6⟩ := HW6.out
    have hb6 : Below w0.heap.size w0 W6 := ⟨y1.trans HB5.out.os, y2.trans HB5.out.tape, y3.trans HB5.out.output, Nat.le_trans HB5.out.size y4, fun k hk => (y5 k (Nat.lt_of_lt_of_le hk HB5.out.size) (by omega)).trans (HB5.out.block k hk)⟩
    have hg6 := (y5 g (blk_lt HG5.out) hgne).trans HG5.out
    have ho6 := Kd.R_mono (Kd.R_step HO6.out (fun k hk hlt => y5 k hlt hk.2)) (ok' := fun _ => True) (fun _ _ => trivial)
    subst hr
    have hs6 : (sortM (ms ++ [⟨name, bin⟩]) 1 ms.length).length = nn := by rw [sortM_length]; exact HLN.out
    refine ⟨rfl, hb6, fun _ => ⟨_, _, hg6, ?_, ho6⟩⟩
    have h7 := y6
    rw [show nn - 1 = ms.length by have := HL5.out; omega] at h7
    exact h7
end Go.Proofs.Ytdbgpakmbjhmgaa.H

/- Repeat of one place; New. -/
namespace Go.Proofs.Ytdbgpakmbjhmgaa.H
open Go.RowKit Go.Proofs.YtdbgpakmbjhmgaaW.PrintWords Go.Proofs.YtdbgpakmbjhmgaaW.PrintLast Go.Proofs.YtdbgpakmbjhmgaaW.PrintMore
set_option linter.unusedVariables false
set_option linter.unusedSimpArgs false

/-- copy, whatever an element's size. -/
theorem run_copy_sz {P : Program} (w : World) (dT sT ty elem : TypeId) (sz g o dLen dCap : Nat) (a : Addr) (sLen sCap k : Nat) (cur : Array Value) (t : TypeId) (cs : List Value)
    (hu : P.underlying dT = some (.slice elem)) (hs : (P.info? elem).map (·.size) = some sz)
    (hg : w.heap[g]? = some (.cells cur t (0, 0))) (hn : k = Nat.min sLen dLen) (hc : cs.length = k * sz)
    (hsrc : ∀ j v, cs[j]? = some v → w.cell? (a.add j) = some v) (hfit : o + cs.length ≤ cur.size) (h1 : ∀ v ∈ cs, v.oneCell' = true) :
    (Builtin.copy_ #[dT, sT] ty #[.slice (some ⟨g, o, none⟩) dLen dCap, .slice (some a) sLen sCap]).run P w =
      .ok (goInt k) (w.setRow g (splice cur.toList o cs).toArray) := by
  have hl := run_loadCells_list (P := P) w a cs hsrc
  have hst := run_storeCells_at P g o t cs 0 cur w hg (by simpa using hfit) h1
  cases hq : P.info? elem with
  | none => simp [hq] at hs
  | some i =>
    have hi : i.size = sz := by simpa [hq] using hs
    rw [hc] at hl
    simp [Builtin.copy_, run_underlying hu, Builtin.lenOf, Builtin.firstCells, sizeOf, typeInfo, hq, hi, ← hn, hl, hst, splice]

section
variable {P : Program} {ops : Array Oper} {rest : List Oper} {o : Oper} {a : Act} {Q : Exit → Act → World → Prop} {Kc : Act → World → Prop} {w : World} {E : Prop}
theorem wpList_copy_sz (hgd : o.guard = none) (d s : Operand) (dT sT : TypeId)
    (ho : o.op = .call { callee := .builtin .copy, args := #[d, s], argTypes := #[dT, sT] }) (elem : TypeId) (sz : Nat) (hu : P.underlying dT = some (.slice elem)) (hsz : (P.info? elem).map (·.size) = some sz)
    (g off dLen dCap : Nat) (ad : Addr) (sLen sCap k : Nat) (hd : a.eval d = .slice (some ⟨g, off, none⟩) dLen dCap) (hs : a.eval s = .slice (some ad) sLen sCap)
    (cur : List Value) (t : TypeId) (hg : w.heap[g]? = some (.cells cur.toArray t (0, 0))) (cs : List Value) (hn : k = Nat.min sLen dLen) (hc : cs.length = k * sz)
    (hsrc : ∀ j v, cs[j]? = some v → w.cell? (ad.add j) = some v) (hfit : off + cs.length ≤ cur.length) (h1 : ∀ v ∈ cs, v.oneCell' = true) (B : Nat) (w0 : World) (hb : Below B w0 w) (hBg : B ≤ g)
    (h : ∀ w', w'.heap[g]? = some (.cells (splice cur off cs).toArray t (0, 0)) → Below B w0 w' → wpList P ops Q rest (a.put o.dst (goInt k)) w') : wpList P ops Q (o :: rest) a w := by
  refine wpList_plain hgd fun K hK => ?_
  have hrun := run_copy_sz (P := P) w dT sT o.type elem sz g off dLen dCap ad sLen sCap k cur.toArray t cs hu hsz hg hn hc hsrc (by simpa using hfit) h1
  unfold Oper.wp
  simp [execOp, ho, resolve, invoke, builtin, hd, hs, hrun, Result.andThen]
  exact hK _ _ (h _ (setRow_heap w g _ _ t _ hg) (below_setRow hb hBg _))
theorem step_copy_sz (hgd : o.guard = none) (d s : Operand) (dT sT : TypeId)
    (ho : o.op = .call { callee := .builtin .copy, args := #[d, s], argTypes := #[dT, sT] }) (elem : TypeId) (sz : Nat) (hu : P.underlying dT = some (.slice elem)) (hsz : (P.info? elem).map (·.size) = some sz)
    (g off dLen dCap : Nat) (ad : Addr) (sLen sCap k : Nat) (hd : a.eval d = .slice (some ⟨g, off, none⟩) dLen dCap) (hs : a.eval s = .slice (some ad) sLen sCap)
    (cur : List Value) (t : TypeId) (hg : w.heap[g]? = some (.cells cur.toArray t (0, 0))) (cs : List Value) (hn : k = Nat.min sLen dLen) (hc : cs.length = k * sz)
    (hsrc : ∀ j v, cs[j]? = some v → w.cell? (ad.add j) = some v) (hfit : off + cs.length ≤ cur.length) (h1 : ∀ v ∈ cs, v.oneCell' = true) (B : Nat) (w0 : World) (hb : Below B w0 w) (hBg : B ≤ g)
    (h : ∀ w', w'.heap[g]? = some (.cells (splice cur off cs).toArray t (0, 0)) → Below B w0 w' → Kc (a.put o.dst (goInt k)) w') :
    if Region.wanted o (yielded ops a.tmps) = true then Oper.wp P o a w Kc Q else E := by
  have hw : Region.wanted o (yielded ops a.tmps) = true := by simp [Region.wanted, hgd]
  rw [if_pos hw]
  have hrun := run_copy_sz (P := P) w dT sT o.type elem sz g off dLen dCap ad sLen sCap k cur.toArray t cs hu hsz hg hn hc hsrc (by simpa using hfit) h1
  unfold Oper.wp
  simp [execOp, ho, resolve, invoke, builtin, hd, hs, hrun, Result.andThen]
  exact h _ (setRow_heap w g _ _ t _ hg) (below_setRow hb hBg _)
end

set_option maxHeartbeats 400000 in
set_option maxRecDepth 100000 in
theorem mul64_calls (x : Int) (h0 : 0 ≤ x) (h1 : x ≤ 9) (w : World) : Calls Try.prog 72 #[.int .u64 1, .int .u64 x] w fun e w' => e = .returned (.tuple #[.int .u64 0, .int .u64 x]) ∧ w = w' := by
  have h : x = 0 ∨ x = 1 ∨ x = 2 ∨ x = 3 ∨ x = 4 ∨ x = 5 ∨ x = 6 ∨ x = 7 ∨ x = 8 ∨ x = 9 := by omega
  rcases h with rfl | rfl | rfl | rfl | rfl | rfl | rfl | rfl | rfl | rfl
  all_goals
    go_enter Try.func72, Try.ntmps72
    go_wp2
    go_ret2
    exact ⟨rfl, rfl⟩
set_option maxHeartbeats 400000 in
theorem mul_calls (x : Int) (h0 : 0 ≤ x) (h1 : x ≤ 9) (w : World) : Calls Try.prog 61 #[.int .u64 1, .int .u64 x] w fun e w' => e = .returned (.tuple #[.int .u64 0, .int .u64 x]) ∧ w = w' := by
  have HC := Lib.hid (mul64_calls x h0 h1 w)
  go_enter Try.func61, Try.ntmps61
  go_wp2_with fail
  refine HC.out.mono ?_
  rintro e w' ⟨rfl, rfl⟩
  go_wp2
  go_ret2
  exact ⟨rfl, rfl⟩

def pc (p : S48) : List Value := [.int .i64 p.f0, .int .i64 p.f1, .int .i64 p.f2]
def zc : List Value := [.int .i64 0, .int .i64 0, .int .i64 0]
/-- m places, and zeros behind them. -/
def rowPZ (p : S48) (n m : Nat) : List Value := (List.replicate m (pc p)).flatten ++ (List.replicate (n - m) zc).flatten
theorem flat_len (l : List Value) (hl : l.length = 3) (m : Nat) : (List.replicate m l).flatten.length = m * 3 := by
  induction m with
  | zero => rfl
  | succ m ih => rw [List.replicate_succ, List.flatten_cons, List.length_append, ih, hl]; omega
theorem rowPZ_len (p : S48) (n m : Nat) (h : m ≤ n) : (rowPZ p n m).length = n * 3 := by
  rw [rowPZ, List.length_append, flat_len _ rfl, flat_len _ rfl]; omega
theorem flat_one (l : List Value) (h : ∀ v ∈ l, v.oneCell' = true) (m : Nat) : ∀ v ∈ (List.replicate m l).flatten, v.oneCell' = true := by
  intro v hv
  obtain ⟨x, hx, hv⟩ := List.mem_flatten.1 hv
  rw [List.eq_of_mem_replicate hx] at hv
  exact h v hv
theorem rep_add (l : List Value) (a b : Nat) : (List.replicate (a + b) l).flatten = (List.replicate a l).flatten ++ (List.replicate b l).flatten := by
  rw [← List.replicate_append_replicate, List.flatten_append]
theorem rowPZ_splice (p : S48) (n m k : Nat) (h : m + k ≤ n) : splice (rowPZ p n m) (m * 3) (List.replicate k (pc p)).flatten = rowPZ p n (m + k) := by
  have e1 : (List.replicate m (pc p)).flatten.length = m * 3 := flat_len _ rfl m
  have e2 : (List.replicate k (pc p)).flatten.length = k * 3 := flat_len _ rfl k
  unfold splice rowPZ
  rw [List.take_left' e1, e2, rep_add, List.append_assoc]
  congr 1
  congr 1
  rw [List.drop_append, e1, List.drop_eq_nil_of_le (by rw [e1]; omega), List.nil_append, show n - m = k + (n - (m + k)) by omega, rep_add, show m * 3 + k * 3 - m * 3 = k * 3 by omega]
  exact List.drop_left' (flat_len _ rfl k)
theorem rowPZ_take (p : S48) (n m k : Nat) (h : k ≤ m) (j : Nat) (v : Value) (hv : (List.replicate k (pc p)).flatten[j]? = some v) : (rowPZ p n m)[j]? = some v := by
  have hj := (List.getElem?_eq_some_iff.1 hv).1
  rw [rowPZ, show m = k + (m - k) by omega, rep_add, List.append_assoc, List.getElem?_append_left hj, hv]
end Go.Proofs.Ytdbgpakmbjhmgaa.H

/- Repeat of one place; New. -/
namespace Go.Proofs.Ytdbgpakmbjhmgaa.H
open Go.RowKit Go.Proofs.YtdbgpakmbjhmgaaW.PrintWords Go.Proofs.YtdbgpakmbjhmgaaW.PrintLast Go.Proofs.YtdbgpakmbjhmgaaW.PrintMore
set_option linter.unusedVariables false
set_option linter.unusedSimpArgs false

theorem make_run (p : S48) (n : Nat) (hn : n ≤ 9) (w : World) : (Instr.makeSlice 24 (.int .i64 (n : Int)) (.int .i64 (n : Int))).run Try.prog w = .ok (.slice (some ⟨w.heap.size, 0, none⟩) n n) (w.alloc (.cells (rowPZ p n 0).toArray 48)) := by
  obtain ⟨i0, hi, hzz⟩ := Option.map_eq_some_iff.1 info48
  simp only [Prod.mk.injEq] at hzz
  obtain ⟨hz0, hz1, hz2⟩ := hzz
  have hr := run_make (P := Try.prog) w 24 48 i0 _ Try.underlying24 hi hz0 .i64 .i64 (n : Int) (n : Int) (by omega) (by omega) (by rw [hz2]; omega) (by omega)
  simp only [Int.toNat_natCast] at hr
  rw [hz1] at hr
  rw [hr]
  have h : n = 0 ∨ n = 1 ∨ n = 2 ∨ n = 3 ∨ n = 4 ∨ n = 5 ∨ n = 6 ∨ n = 7 ∨ n = 8 ∨ n = 9 := by omega
  have hc : madeCells (Value.cells (.agg #[.int .i64 0, .int .i64 0, .int .i64 0])) (n * 3) = (rowPZ p n 0).toArray := by
    clear hi hz0 hz1 hz2 hr
    rcases h with rfl | rfl | rfl | rfl | rfl | rfl | rfl | rfl | rfl | rfl <;> first | (simp [madeCells, rowPZ, zc, List.replicate, Value.cells, Array.range, List.range, List.range.loop, Array.ofFn]; done) | (kernel_rfl)
  rw [hc]

theorem pc_one (p : S48) : ∀ v ∈ pc p, v.oneCell' = true := by
  intro v hv
  simp only [pc, List.mem_cons, List.not_mem_nil, or_false] at hv
  rcases hv with rfl | rfl | rfl <;> rfl
theorem R_of_row {W : World} {b g n : Nat} (p : S48) (hg : W.heap[g]? = some (.cells (rowPZ p n n).toArray 48 (0, 0))) (hb : b ≤ g) (hn : n ≤ 9) :
    Kd.R k48 48 W b (fun _ => True) (.slice (some ⟨g, 0, none⟩) n n) (List.replicate n p) := by
  have hrow : rowPZ p n n = (List.replicate n (pc p)).flatten := by simp [rowPZ]
  have hlen : (rowPZ p n n).length = n * 3 := rowPZ_len p n n (Nat.le_refl _)
  refine ⟨fun _ _ => trivial, (List.replicate n (pc p)).flatten, ⟨by rw [flat_len _ rfl]; simp; rfl, .inr ⟨g, n, (rowPZ p n n).toArray, by simp, hb, hg, by simp, by simp only [maxLen]; omega, by simp [hlen]; rfl, ?_⟩⟩, by rw [flat_len _ rfl]; simp; rfl, ?_⟩
  · rw [List.length_replicate]
    show ((rowPZ p n n).toArray.toList).take (n * 3) = _
    rw [List.take_of_length_le (by simp [hlen]), hrow]
  · intro j q hq
    have hj := (List.getElem?_eq_some_iff.1 hq).1
    rw [List.length_replicate] at hj
    obtain rfl : q = p := by simpa [List.getElem?_replicate, hj] using hq.symm
    show k48.M _ _ _ _ (((List.replicate n (pc q)).flatten.drop (j * 3)).take 3)
    rw [show n = j + (1 + (n - j - 1)) by omega, rep_add, List.drop_left' (flat_len _ rfl j), rep_add, List.take_left' (flat_len _ rfl 1)]
    exact k48_mkM _ _ _ q

set_option maxHeartbeats 2000000 in
set_option maxRecDepth 100000 in
theorem repeat_calls (A : Option Addr) (c : Nat) (p : S48) (n : Nat) (hn : n ≤ 9) (w : World) (hr : Kd.C k48 w A 1 [p]) :
    Calls Try.prog 33 #[.slice A 1 c, .int .i64 n] w fun e w' => ∃ v, e = .returned v ∧ Kd.R k48 48 w' w.heap.size (fun _ => True) v (List.replicate n p) ∧ Below w.heap.size w w' := by
  obtain ⟨ad, rfl, h0, h1, h2⟩ := at_T48 hr 0 (by omega) (by omega)
  have HM := Lib.hid (mul_calls (n : Int) (by omega) (by omega) w)
  have hmk := make_run p n hn
  have hsrc : ∀ j v, (pc p)[j]? = some v → w.cell? (ad.add j) = some v := by
    intro j v hv
    have e0 : (ad.add ((0 : Int).toNat * 3)) = ad := by simp [Addr.add]
    rw [e0] at h0 h1 h2
    have e1 : rd_T48 [p] 0 = p := rfl
    rw [e1] at h0 h1 h2
    rcases j with _ | _ | _ | j
    · simp [pc] at hv; subst hv; simpa [Addr.add] using h0
    · simp [pc] at hv; subst hv; simpa [Addr.add] using h1
    · simp [pc] at hv; subst hv; simpa [Addr.add] using h2
    · simp [pc] at hv
  have HS := Lib.hid hsrc
  clear h0 h1 h2 hr hsrc
  have HB0 := Lib.hid (below_alloc (Below.refl w.heap.size w) (.cells (rowPZ p n 0).toArray 48))
  have HG0 := Lib.hid (heap_alloc_new w (.cells (rowPZ p n 0).toArray 48))
  have HS0 := Lib.hid (fun j v (hv : (pc p)[j]? = some v) => kept_cell (below_alloc (Below.refl w.heap.size w) (.cells (rowPZ p n 0).toArray 48)) (HS.out j v hv))
  have hz : ∃ w2, (Builtin.copy_ #[24, 24] 3 #[.slice (some ⟨w.heap.size, 0, none⟩) n n, .slice (some ad) 1 c]).run Try.prog (w.alloc (.cells (rowPZ p n 0).toArray 48)) = .ok (goInt ((min 1 n : Nat) : Int)) w2 ∧ w2.heap[w.heap.size]? = some (.cells (rowPZ p n (min 1 n)).toArray 48 (0, 0)) ∧ Below w.heap.size w w2 := by
    refine ⟨_, run_copy_sz (P := Try.prog) _ 24 24 3 48 3 w.heap.size 0 n n ad 1 c (min 1 n) _ 48 (List.replicate (min 1 n) (pc p)).flatten Try.underlying24 (by kernel_rfl) HG0.out rfl (flat_len _ rfl _) ?_ ?_ (flat_one _ (pc_one p) _), ?_, ?_⟩
    · intro j v hv
      refine HS0.out j v ?_
      have h : min 1 n = 0 ∨ min 1 n = 1 := by omega
      rcases h with h | h <;> rw [h] at hv
      · simp at hv
      · simpa using hv
    · rw [flat_len _ rfl, List.size_toArray, rowPZ_len _ _ _ (by omega)]
      omega
    · have := rowPZ_splice p n 0 (min 1 n) (by omega)
      rw [Nat.zero_mul, Nat.zero_add] at this
      have h2 := setRow_heap (w.alloc (.cells (rowPZ p n 0).toArray 48)) w.heap.size _ (splice (rowPZ p n 0) 0 (List.replicate (min 1 n) (pc p)).flatten).toArray 48 (0, 0) HG0.out
      rw [this] at h2
      simpa [this] using h2
    · exact below_setRow HB0.out (Nat.le_refl _) _
  obtain ⟨w2, hcp, hg2, hb2⟩ := hz
  have HCP := Lib.hid hcp
  have HG2 := Lib.hid hg2
  have HB2 := Lib.hid hb2
  clear hcp hg2 hb2
  go_enter Try.func33, Try.ntmps33
  go_wp2_with fail
  refine HM.out.mono ?_
  rintro e w' ⟨rfl, rfl⟩
  go_wp2_with (rw [HCP.out])
  go_loopw [8] (fun v W => ∃ m : Nat, m ≤ n ∧ (m = 0 → n = 0) ∧ v = .int .i64 m ∧ Aside0 (W.heap[w.heap.size]? = some (.cells (rowPZ p n m).toArray 48 (0, 0)) ∧ Below w.heap.size w W)) (fun v _ => n - (intOf v).toNat)
  case atStart => exact ⟨min 1 n, by omega, by omega, rfl, ⟨HG2.out, HB2.out⟩⟩
  case round =>
    obtain ⟨m, hmn, hm0, rfl, HR⟩ := hrel
    by_cases hlt : m < n
    · have hp1 : (0 : Int) ≤ m := by omega
      have hp2 : (m : Int) ≤ n := by omega
      have HGr := Lib.hid HR.out.1
      have HBr := Lib.hid HR.out.2
      have HCELL := Lib.hid (show ∀ j v, ((List.replicate (min m (n - m)) (pc p)).flatten)[j]? = some v → wr.drew.cell? ((⟨w.heap.size, 0, none⟩ : Addr).add j) = some v from fun j v hv => by
        have h := rowPZ_take p n m _ (Nat.min_le_left _ _) j v hv
        have hg : wr.drew.heap[w.heap.size]? = some (.cells (rowPZ p n m).toArray 48 (0, 0)) := HGr.out
        rcases j with _ | j <;> simp [World.cell?, Addr.add, hg, h])
      have HFIT := Lib.hid (show m * 3 + ((List.replicate (min m (n - m)) (pc p)).flatten).length ≤ (rowPZ p n m).length from by rw [flat_len _ rfl, rowPZ_len _ _ _ hmn]; omega)
      go_wp2
      go_region_law (refine step_copy_sz rfl (.tmp 41) (.tmp 44) 24 24 rfl 48 3 Try.underlying24 (by kernel_rfl) w.heap.size (m * 3) (n - m) (n - m) ⟨w.heap.size, 0, none⟩ m n (min m (n - m)) ?e1 ?e2 (rowPZ p n m) 48 HGr.out ((List.replicate (min m (n - m)) (pc p)).flatten) rfl (flat_len _ rfl _) ?c1 ?c2 (flat_one _ (pc_one p) _) w.heap.size w (pw_below_drewN HBr.out 1) (Nat.le_refl _) ?_; (case e1 => simp [Act.eval, Act.put]; omega); (case e2 => simp [Act.eval, Act.put]); (case c1 => exact HCELL.out); (case c2 => exact HFIT.out); intro w2 hg2 hb2)
      rw [rowPZ_splice p n m _ (by omega)] at hg2
      have hw : IntKind.i64.wrap ((m : Int) + ((min m (n - m) : Nat) : Int)) = ((m + min m (n - m) : Nat) : Int) := by rw [IntWalk.i64_in _ ⟨by omega, by omega⟩]; exact (Int.natCast_add _ _).symm
      go_wp2
      go_roundw
      case rel =>
        exact ⟨m + min m (n - m), by omega, by omega, (Int.natCast_add _ _).symm, ⟨rfl⟩⟩
      case measure =>
        simp [intOf, hw]; omega
    · go_wp2
      go_ret
      obtain rfl : m = n := by omega
      exact ⟨_, rfl, R_of_row p HR.out.1 (Nat.le_refl _) hn, HR.out.2⟩
end Go.Proofs.Ytdbgpakmbjhmgaa.H

/- Join. -/
namespace Go.Proofs.Ytdbgpakmbjhmgaa.H
open Go.RowKit Go.Proofs.YtdbgpakmbjhmgaaW.PrintWords Go.Proofs.YtdbgpakmbjhmgaaW.PrintLast Go.Proofs.YtdbgpakmbjhmgaaW.PrintMore
set_option linter.unusedVariables false
set_option linter.unusedSimpArgs false

def joinC (name bin : Int) (lv : Int) (ms : List S45) (ps : List S48) : Int × Int × List S45 × List S48 := changedC (fJoin name bin) lv ms ps

set_option maxHeartbeats 1000000 in
theorem join_calls (name bin : Int) (lv : Int) (A1 : Option Addr) (c1 : Nat) (ms : List S45) (A2 : Option Addr) (c2 : Nat) (ps : List S48) (w : World)
    (hr1 : Kd.C k45 w A1 ms.length ms) (hr2 : Kd.C k48 w A2 ps.length ps) (hl1 : ms.length * 16 ≤ 140737488355328) (hl2 : ps.length * 24 ≤ 140737488355328) :
    Calls Try.prog 22 #[.agg #[.int .i64 lv, .slice A1 ms.length c1, .slice A2 ps.length c2], .int .i64 name, .int .i64 bin] w fun e w' => ∃ v1 v2, e = .returned (.tuple #[.agg #[.int .i64 (joinC name bin lv ms ps).2.1, v1, v2], .int .i64 (joinC name bin lv ms ps).1]) ∧ Kd.R k45 45 w' w.heap.size (fun _ => True) v1 (joinC name bin lv ms ps).2.2.1 ∧ Kd.R k48 48 w' w.heap.size (fun _ => True) v2 (joinC name bin lv ms ps).2.2.2 ∧ Below w.heap.size w w' := by
  generalize hW0 : (((w.alloc (.cells #[.int .i64 lv, .slice A1 ms.length c1, .slice A2 ps.length c2] 26)).alloc (.cells #[.int .i64 name] 3)).alloc (.cells #[.int .i64 bin] 3)).alloc (.cells #[.int .i64 0, .slice none 0 0, .slice none 0 0] 26) = W0
  have HB0 := Lib.hid (show Below w.heap.size w W0 by rw [← hW0]; exact below_alloc (below_alloc (below_alloc (below_alloc (Below.refl w.heap.size w) _) _) _) _)
  have HA0 := Lib.hid (show W0.heap[w.heap.size]? = some (.cells #[.int .i64 lv, .slice A1 ms.length c1, .slice A2 ps.length c2] 26) by rw [← hW0]; exact alloc_on (alloc_on (alloc_on (new_at (by simp) _) _) _) _)
  have HA1 := Lib.hid (show W0.heap[w.heap.size + 1]? = some (.cells #[.int .i64 name] 3) by rw [← hW0]; exact alloc_on (alloc_on (new_at (by simp) _) _) _)
  have HA2 := Lib.hid (show W0.heap[w.heap.size + 2]? = some (.cells #[.int .i64 bin] 3) by rw [← hW0]; exact alloc_on (new_at (by simp) _) _)
  have HA3 := Lib.hid (show W0.heap[w.heap.size + 3]? = some (.cells #[.int .i64 0, .slice none 0 0, .slice none 0 0] 26) by rw [← hW0]; exact new_at (by simp) _)
  have HCC := Lib.hid (changed_calls 52 #[.pointer (some ⟨w.heap.size + 1, 0, none⟩), .pointer (some ⟨w.heap.size + 2, 0, none⟩)] (fJoin name bin) lv A1 c1 ms A2 c2 ps W0 enter_join1 (Kd.C_below hr1 HB0.out) (Kd.C_below hr2 HB0.out) hl1 hl2 (fun w0 hb => join1_does name bin (w.heap.size + 1) (w.heap.size + 2) w0 (kept_cell hb ((blk_cell HA1.out 0).trans rfl)) (kept_cell hb ((blk_cell HA2.out 0).trans rfl))))
  have HFD := Lib.hid (show joinC name bin lv ms ps = changedC (fJoin name bin) lv ms ps from rfl)
  have HW0 := Lib.hid hW0; clear hW0 hr1 hr2 hl1 hl2
  generalize changedC (fJoin name bin) lv ms ps = r at *
  go_enter Try.func22, Try.ntmps22
  go_wp2_with fail
  rw [HW0.out]
  refine HCC.out.mono ?_
  rintro e W1 ⟨v1, v2, rfl, ho1, ho2, hb1⟩
  obtain ⟨A3, c3, rfl⟩ := Kd.R_slice ho1
  obtain ⟨A4, c4, rfl⟩ := Kd.R_slice ho2
  have HZ1 := Lib.hid (kept_on hb1 HA3.out)
  have HB1 := Lib.hid (below_then HB0.out HB0.out.size hb1)
  have HO3 := Lib.hid (Kd.R_lower ho1 HB0.out.size)
  have HO4 := Lib.hid (Kd.R_lower ho2 HB0.out.size)
  clear ho1 ho2 hb1
  obtain ⟨q0, q1, q2, q3, q4, q5, q6⟩ := three_cells HZ1.out
  go_wp2
  have e1 := blk_set HZ1.out 0 (.int .i64 r.2.1)
  have e2 := blk_set e1 1 (.slice A3 r.2.2.1.length c3)
  have e3 := blk_set e2 2 (.slice A4 r.2.2.2.length c4)
  refine ret_C (g := w.heap.size + 3) (lv := r.2.1) (s1 := .slice A3 r.2.2.1.length c3) (s2 := .slice A4 r.2.2.2.length c4) (v := .int .i64 r.1) Try.results22 rfl rfl rfl (by simpa using e3) ?_
  refine ⟨_, _, by rw [HFD.out], ?_, ?_, ?_⟩
  · rw [HFD.out]; exact Kd.R_set (Kd.R_set (Kd.R_set HO3.out HZ1.out (by decide) 0 _) e1 (by decide) 1 _) e2 (by decide) 2 _
  · rw [HFD.out]; exact Kd.R_set (Kd.R_set (Kd.R_set HO4.out HZ1.out (by decide) 0 _) e1 (by decide) 1 _) e2 (by decide) 2 _
  · exact below_set (below_set (below_set HB1.out (by omega)) (by omega)) (by omega)
end Go.Proofs.Ytdbgpakmbjhmgaa.H

/- New. -/
namespace Go.Proofs.Ytdbgpakmbjhmgaa.H
open Go.RowKit Go.Proofs.YtdbgpakmbjhmgaaW.PrintWords Go.Proofs.YtdbgpakmbjhmgaaW.PrintLast Go.Proofs.YtdbgpakmbjhmgaaW.PrintMore
set_option linter.unusedVariables false
set_option linter.unusedSimpArgs false

def sizeC (n : Int) : Nat := (min (max n 0) 9).toNat
def newC (n name bin : Int) : Int × List S45 × List S48 :=
  if rightC 1 [⟨name, bin⟩] (List.replicate (sizeC n) ⟨name, 1, 0⟩) then (1, [⟨name, bin⟩], List.replicate (sizeC n) ⟨name, 1, 0⟩) else (0, [], [])

theorem one_C {W : World} {g : Nat} (p : S48) (hg : W.heap[g]? = some (.cells #[.int .i64 p.f0, .int .i64 p.f1, .int .i64 p.f2] 48 (0, 0))) : Kd.C k48 W (some ⟨g, 0, none⟩) 1 [p] := by
  have h := R_of_row (W := W) (b := 0) (g := g) (n := 1) p (by simpa [rowPZ, pc] using hg) (Nat.zero_le _) (by decide)
  exact (Kd.R_reads' h).2.2

theorem one_R {W : World} {b g : Nat} (p : S45) (hg : W.heap[g]? = some (.cells #[.int .i64 p.f0, .int .i64 p.f1] 45 (0, 0))) (hb : b ≤ g) : Kd.R k45 45 W b (fun _ => True) (.slice (some ⟨g, 0, none⟩) 1 1) [p] := by
  refine ⟨fun _ _ => trivial, [.int .i64 p.f0, .int .i64 p.f1], ⟨by simp; rfl, .inr ⟨g, 1, #[.int .i64 p.f0, .int .i64 p.f1], by simp, hb, hg, by simp, by simp only [maxLen]; omega, by simp; rfl, ?_⟩⟩, by simp; rfl, ?_⟩
  · rfl
  · intro j q hq
    have hj := (List.getElem?_eq_some_iff.1 hq).1
    simp at hj
    subst hj
    obtain rfl : p = q := by simpa using hq
    exact k45_mkM _ _ _ p

theorem ret_C1 {fn : Func} {a : Act} {W : World} {g p : Nat} {lv : Int} {s1 s2 : Value} {R : Ending → World → Prop} (hres : fn.results = #[.cell p 26]) (hp : a.tmps.getD p undef = .pointer (some ⟨g, 0, none⟩)) (hd : a.defers = [])
    (hg : W.heap[g]? = some (.cells #[.int .i64 lv, s1, s2] 26 (0, 0))) (hR : R (.returned (.agg #[.int .i64 lv, s1, s2])) W) : bodyPost Try.prog fn R .ret a W := by
  refine bodyPost_ret (v := .agg #[.int .i64 lv, s1, s2]) ?_ hd hR
  exact results_single hres (.cell g 26 _ (0, 0) _ hp hg Try.underlying26 rfl (by kernel_rfl) .nil)

set_option maxHeartbeats 1000000 in
set_option maxRecDepth 100000 in
theorem new_calls (n name bin : Int) (w : World) :
    Calls Try.prog 12 #[.int .i64 n, .int .i64 name, .int .i64 bin] w fun e w' =>
      ∃ v1 v2, e = .returned (.agg #[.int .i64 (newC n name bin).1, v1, v2]) ∧ Kd.R k45 45 w' w.heap.size (fun _ => True) v1 (newC n name bin).2.1 ∧ Kd.R k48 48 w' w.heap.size (fun _ => True) v2 (newC n name bin).2.2 ∧ Below w.heap.size w w' := by
  generalize hW0 : ((w.alloc (.cells #[.int .i64 0, .slice none 0 0, .slice none 0 0] 26)).alloc (.cells #[.int .i64 name, .int .i64 bin] 45)).alloc (.cells #[.int .i64 name, .int .i64 1, .int .i64 0] 48) = W0
  have HB0 := Lib.hid (show Below w.heap.size w W0 by rw [← hW0]; exact below_alloc (below_alloc (below_alloc (Below.refl _ _) _) _) _)
  have HA0 := Lib.hid (show W0.heap[w.heap.size]? = some (.cells #[.int .i64 0, .slice none 0 0, .slice none 0 0] 26) by rw [← hW0]; exact alloc_on (alloc_on (new_at (by simp) _) _) _)
  have HA1 := Lib.hid (show W0.heap[w.heap.size + 1]? = some (.cells #[.int .i64 name, .int .i64 bin] 45) by rw [← hW0]; exact alloc_on (new_at (by simp) _) _)
  have HA2 := Lib.hid (show W0.heap[w.heap.size + 2]? = some (.cells #[.int .i64 name, .int .i64 1, .int .i64 0] 48) by rw [← hW0]; exact new_at (by simp) _)
  have HW0 := Lib.hid hW0; clear hW0
  have hk9 : sizeC n ≤ 9 := by unfold sizeC; omega
  have hkc : (n < 0 ∧ sizeC n = 0) ∨ (0 ≤ n ∧ n ≤ 9 ∧ n = (sizeC n : Int)) ∨ (9 < n ∧ sizeC n = 9) := by unfold sizeC; omega
  have HN := Lib.hid (show newC n name bin = if rightC 1 [⟨name, bin⟩] (List.replicate (sizeC n) ⟨name, 1, 0⟩) then (1, [⟨name, bin⟩], List.replicate (sizeC n) ⟨name, 1, 0⟩) else (0, [], []) from rfl)
  generalize newC n name bin = r at *
  generalize sizeC n = k at *
  have HREP := Lib.hid (repeat_calls (some ⟨w.heap.size + 2, 0, none⟩) 1 ⟨name, 1, 0⟩ k hk9 W0 (one_C ⟨name, 1, 0⟩ HA2.out))
  have HKC := Lib.hid hkc; clear hkc
  go_enter Try.func12, Try.ntmps12
  go_upto_region 1 with (fail)
  generalize hz1 : w.alloc (.cells #[.int .i64 0, .slice none 0 0, .slice none 0 0] 26) = Z1 at *
  have HZ := Lib.hid hz1
  have hs := congrArg (fun W => W.heap.size) hz1
  simp at hs
  have HS := Lib.hid hs.symm; clear hz1 hs
  go_cut [7, 9, 10, 11] (fun v7 v9 v10 v11 W => v7 = .int .i64 k ∧ W = Z1)
  case first =>
    have q0 := HKC.out
    by_cases h0 : n < 0
    · obtain rfl : k = 0 := by omega
      clear q0
      go_wp2
      go_meet
      case rel => exact ⟨rfl, rfl⟩
    · by_cases h9 : n ≤ 9
      · have q := Lib.hid (show n = (k : Int) by omega); clear q0
        have h0' : 0 ≤ n := by omega
        go_wp2
        go_meet
        case rel => exact ⟨congrArg _ q.out, rfl⟩
      · obtain rfl : k = 9 := by omega
        clear q0
        have h9' : 9 < n := by omega
        have h0' : 0 ≤ n := by omega
        go_wp2
        go_meet
        case rel => exact ⟨rfl, rfl⟩
  case rest =>
    obtain ⟨rfl, rfl⟩ := hcut
    go_wp2_with fail
    rw [HS.out]
    rw [HW0.out]
    refine HREP.out.mono ?_
    rintro e W1 ⟨v1, rfl, ho1, hb1⟩
    have hl1 : (List.replicate k (⟨name, 1, 0⟩ : S48)).length = k := by simp
    obtain ⟨A3, c3, rfl⟩ := Kd.R_slice ho1
    generalize hps : (List.replicate k (⟨name, 1, 0⟩ : S48)) = ps at *
    have HPS := Lib.hid hps; clear hps
    subst hl1
    generalize hW2 : W1.alloc (.cells #[.int .i64 1, .slice (some ⟨w.heap.size + 1, 0, none⟩) 1 1, .slice A3 ps.length c3] 26) = W2
    have hb2 : Below W1.heap.size W1 W2 := by rw [← hW2]; exact below_alloc (Below.refl _ _) _
    have HC2 := Lib.hid (show W2.heap[W1.heap.size]? = some (.cells #[.int .i64 1, .slice (some ⟨w.heap.size + 1, 0, none⟩) 1 1, .slice A3 ps.length c3] 26) by rw [← hW2]; exact heap_alloc_new W1 _)
    have HA12 := Lib.hid (kept_on hb2 (kept_on hb1 HA1.out))
    have HA02 := Lib.hid (kept_on hb2 (kept_on hb1 HA0.out))
    have HO12 := Lib.hid (Kd.R_lower (Kd.R_below ho1 hb2) HB0.out.size)
    have HB2 := Lib.hid (below_then (below_then HB0.out HB0.out.size hb1) (Nat.le_trans HB0.out.size hb1.size) hb2)
    have HO22 := Lib.hid (one_R (b := w.heap.size) ⟨name, bin⟩ HA12.out (by omega))
    have HCR := Lib.hid (right_calls 1 (some ⟨w.heap.size + 1, 0, none⟩) 1 [⟨name, bin⟩] A3 c3 ps W2 (Kd.R_reads' HO22.out).2.2 (Kd.R_reads' HO12.out).2.2)
    have HW2 := Lib.hid hW2; clear hW2 ho1 hb1 hb2
    obtain ⟨k0, k1, k2, _, _, _, _⟩ := three_cells HC2.out
    have HRC : _ := Lib.hid (show r = if rightC 1 [⟨name, bin⟩] ps then (1, [⟨name, bin⟩], ps) else (0, [], []) from HN.out)
    clear HN
    go_wp2_with fail
    rw [HW2.out]
    refine HCR.out.mono ?_
    rintro e W3 ⟨rfl, hb3⟩
    have HB3 := Lib.hid (below_then HB2.out HB2.out.size hb3)
    have HZ3 := Lib.hid (kept_on hb3 HA02.out)
    have HC3 := Lib.hid (kept_on hb3 HC2.out)
    have HO13 := Lib.hid (Kd.R_below HO12.out hb3)
    have HO23 := Lib.hid (Kd.R_below HO22.out hb3)
    clear k0 k1 k2 hb3
    obtain ⟨k0, k1, k2, _, _, _, _⟩ := three_cells HC3.out
    obtain ⟨q0, q1, q2, q3, q4, q5, q6⟩ := three_cells HZ3.out
    cases hv : rightC 1 [⟨name, bin⟩] ps
    · have HR := Lib.hid (HRC.out.trans (by rw [hv]; rfl) : r = (0, [], [])); clear hv
      go_wp2
      have e1 := blk_set HZ3.out 0 (.int .i64 0)
      have e2 := blk_set e1 1 (.slice none 0 0)
      have e3 := blk_set e2 2 (.slice none 0 0)
      refine ret_C1 (g := w.heap.size) (lv := 0) (s1 := .slice none 0 0) (s2 := .slice none 0 0) Try.results12 rfl rfl (by simpa using e3) ?_
      refine ⟨_, _, by rw [HR.out], ?_, ?_, ?_⟩
      · rw [HR.out]; exact Kd.R_nil _ _ _ _ _
      · rw [HR.out]; exact Kd.R_nil _ _ _ _ _
      · exact below_set (below_set (below_set HB3.out (Nat.le_refl _)) (Nat.le_refl _)) (Nat.le_refl _)
    · have HR := Lib.hid (HRC.out.trans (by rw [hv]; rfl) : r = (1, [⟨name, bin⟩], ps)); clear hv
      go_wp2
      have e1 := blk_set HZ3.out 0 (.int .i64 1)
      have e2 := blk_set e1 1 (.slice (some ⟨w.heap.size + 1, 0, none⟩) 1 1)
      have e3 := blk_set e2 2 (.slice A3 ps.length c3)
      refine ret_C1 (g := w.heap.size) (lv := 1) (s1 := .slice (some ⟨w.heap.size + 1, 0, none⟩) 1 1) (s2 := .slice A3 ps.length c3) Try.results12 rfl rfl (by simpa using e3) ?_
      refine ⟨_, _, by rw [HR.out], ?_, ?_, ?_⟩
      · rw [HR.out]; exact Kd.R_set (Kd.R_set (Kd.R_set HO23.out HZ3.out (by decide) 0 _) e1 (by decide) 1 _) e2 (by decide) 2 _
      · rw [HR.out]; exact Kd.R_set (Kd.R_set (Kd.R_set HO13.out HZ3.out (by decide) 0 _) e1 (by decide) 1 _) e2 (by decide) 2 _
      · exact below_set (below_set (below_set HB3.out (Nat.le_refl _)) (Nat.le_refl _)) (Nat.le_refl _)
end Go.Proofs.Ytdbgpakmbjhmgaa.H

/- cmp.Or; a map of numbers; loads. -/
namespace Go.Proofs.Ytdbgpakmbjhmgaa.H
open Go.RowKit Go.Proofs.YtdbgpakmbjhmgaaW.PrintWords Go.Proofs.YtdbgpakmbjhmgaaW.PrintLast Go.Proofs.YtdbgpakmbjhmgaaW.PrintMore
open Go.Maps (Keyed)
set_option linter.unusedVariables false
set_option linter.unusedSimpArgs false

def or2 (a b : Int) : Int := if a = 0 then b else a

set_option maxHeartbeats 1000000 in
set_option maxRecDepth 100000 in
theorem or_calls (g : Nat) (x y : Int) (w : World) (h0 : w.cell? ⟨g, 0, none⟩ = some (.int .i64 x)) (h1 : w.cell? ⟨g, 1, none⟩ = some (.int .i64 y)) :
    Calls Try.prog 66 #[.slice (some ⟨g, 0, none⟩) 2 2] w fun e w' => e = .returned (.int .i64 (or2 x y)) ∧ w = w' := by
  by_cases hx : x = 0
  · have HX := Lib.hid (show or2 x y = y by simp [or2, hx])
    subst hx
    by_cases hy : y = 0
    · subst hy
      go_enter Try.func66, Try.ntmps66
      go_wp2
      refine wp_loop_rounds 3 ?_
      rw [rounds_succ]
      go_wp2
      rw [rounds_succ]
      go_wp2
      rw [rounds_succ]
      go_wp2
      go_ret
      exact ⟨ret_int HX.out.symm, rfl⟩
    · have hy2 : (y != 0) = true := by simpa using hy
      go_enter Try.func66, Try.ntmps66
      go_wp2
      refine wp_loop_rounds 2 ?_
      rw [rounds_succ]
      go_wp2
      rw [rounds_succ]
      go_wp2
      go_ret
      exact ⟨ret_int HX.out.symm, rfl⟩
  · have HX := Lib.hid (show or2 x y = x by simp [or2, hx])
    have hx2 : (x != 0) = true := by simpa using hx
    go_enter Try.func66, Try.ntmps66
    go_wp2
    refine wp_loop_rounds 1 ?_
    rw [rounds_succ]
    go_wp2
    go_ret
    exact ⟨ret_int HX.out.symm, rfl⟩

/-- Block b is a map of at most n entries, that tells f. -/
def MapI (W : World) (b n : Nat) (f : Int → Int) : Prop :=
  ∃ D : DataW Unit, W.ownsMap Try.prog 3 (plainElem Try.prog 3) b n D ∧ Maps.IsMap D ∧ ∀ k : Int, D.atKey (.int .i64 k) (.lit (.int .i64 0)) = .lit (.int .i64 (f k))
theorem lawI : Keyed Try.prog 3 := Maps.int_keyed Try.underlying3
theorem zeroI (w : World) : (zeroValue 3).run Try.prog w = .ok (.int .i64 0) w := by kernel_rfl
set_option maxRecDepth 100000 in
theorem wfI (z : Int) (h : -9223372036854775808 ≤ z ∧ z ≤ 9223372036854775807) : (Lit.int .i64 z).wf = true := by
  simp only [Lit.wf, IntKind.min, IntKind.max, IntKind.signed, IntKind.bits, Bool.and_eq_true, decide_eq_true_eq, if_true]
  omega
theorem keyI (z : Int) (h : -9223372036854775808 ≤ z ∧ z ≤ 9223372036854775807) : keyOf Try.prog 3 (.int .i64 z) = some (.int .i64 z) := Maps.keyOf_int_mk Try.underlying3 (wfI z h)
theorem MapI.grown {W W' : World} {b n : Nat} {f : Int → Int} {row : Option Nat} (h : MapI W b n f) (hg : W.grownBy W' row) (hne : some b ≠ row) : MapI W' b n f := by
  obtain ⟨D, h1, h2⟩ := h
  exact ⟨D, h1.kept hg hne, h2⟩
theorem MapI.below {W W' : World} {b n : Nat} {f : Int → Int} (h : MapI W b n f) (hb : Below W.heap.size W W') : MapI W' b n f := by
  obtain ⟨D, ⟨es, clock, h0, F, h1⟩, h2⟩ := h
  exact ⟨D, ⟨es, clock, (hb.block b (by rcases Nat.lt_or_ge b W.heap.size with h | h; exact h; rw [Array.getElem?_eq_none h] at h0; cases h0)).trans h0, F, h1⟩, h2⟩
theorem MapI.made (W : World) : MapI (W.alloc (.map #[] 0)) W.heap.size 0 (fun _ => 0) := ⟨.map [], World.ownsMap_made _ _ _ _, ⟨_, rfl⟩, fun _ => rfl⟩
set_option maxRecDepth 100000 in
theorem MapI.look {W : World} {b n : Nat} {f : Int → Int} (h : MapI W b n f) (k : Int) (hk : -9223372036854775808 ≤ k ∧ k ≤ 9223372036854775807) :
    (Instr.lookup 65 (.map (some b)) (.int .i64 k) false).run Try.prog W = .ok (.int .i64 (f k)) W := by
  obtain ⟨D, h1, _, h2⟩ := h
  obtain ⟨c, hr, hat, _⟩ := h1.lookup_int lawI Try.underlying65 Try.underlying3 (zeroI W) (keyI k hk)
  rw [h2 k] at hat
  injection hat with hat
  injection hat with _ hat
  rw [hr, hat]
set_option maxRecDepth 100000 in
theorem MapI.store {W : World} {b n : Nat} {f : Int → Int} (h : MapI W b n f) (hn : n < maxLen) (k v : Int) (hk : -9223372036854775808 ≤ k ∧ k ≤ 9223372036854775807) (hv : -9223372036854775808 ≤ v ∧ v ≤ 9223372036854775807) :
    ∃ W', (Instr.mapUpdate 65 (.map (some b)) (.int .i64 k) (.int .i64 v)).run Try.prog W = .ok () W' ∧ MapI W' b (n + 1) (fun x => if x = k then v else f x) ∧ W.grownBy W' (some b) := by
  obtain ⟨D, h1, hm, h2⟩ := h
  obtain ⟨W', hr, ho, hg⟩ := h1.update lawI Try.underlying65 hn (keyI k hk) (plainElem_int Try.underlying3 (wfI v hv))
  refine ⟨W', hr, ⟨_, ho, ?_, ?_⟩, hg⟩
  · exact hm.put _ _
  · intro x
    by_cases hx : x = k
    · subst hx
      rw [Maps.atKey_put_same (k := .int .i64 x) hm trivial]
      simp
    · rw [Maps.atKey_put_other (by intro h; injection h with _ h; exact hx h), h2]
      simp [hx]

def own1 (p : S48) : Int := or2 p.f2 p.f0
def loadsC (ps : List S48) (x : Int) : Int := ((ps.filter (fun p => own1 p == x)).length : Nat)
theorem loadsC_le (ps : List S48) (x : Int) : 0 ≤ loadsC ps x ∧ loadsC ps x ≤ ps.length := by
  have := List.length_filter_le (fun p => own1 p == x) ps
  unfold loadsC
  omega
theorem loadsC_step (ps : List S48) (m : Nat) (h : m < ps.length) (k : Int) (hk : k = own1 (rd_T48 ps m)) : loadsC (ps.take (m + 1)) = fun x => if x = k then loadsC (ps.take m) k + 1 else loadsC (ps.take m) x := by
  funext x
  have e : rd_T48 ps m = ps[m] := by simp [rd_T48, List.getD_eq_getElem?_getD, List.getElem?_eq_getElem h]
  rw [e] at hk
  subst hk
  unfold loadsC
  rw [List.take_add_one, List.getElem?_eq_getElem h, Option.toList_some, List.filter_append]
  by_cases hx : x = own1 ps[m]
  · subst hx; simp
  · have : (own1 ps[m] == x) = false := by simpa using fun h => hx h.symm
    simp [hx, this]

set_option maxHeartbeats 2000000 in
set_option maxRecDepth 100000 in
theorem loads_calls (lv : Int) (A1 : Option Addr) (n1 c1 : Nat) (A2 : Option Addr) (c2 : Nat) (ps : List S48) (w : World) (hr2 : Kd.C k48 w A2 ps.length ps) (h8 : ps.length ≤ 8)
    (hwf : ∀ p ∈ ps, 0 ≤ own1 p ∧ own1 p ≤ 100) :
    Calls Try.prog 44 #[.agg #[.int .i64 lv, .slice A1 n1 c1, .slice A2 ps.length c2]] w fun e w' => ∃ b, e = .returned (.map (some b)) ∧ w.heap.size ≤ b ∧ MapI w' b 8 (loadsC ps) ∧ Below w.heap.size w w' := by
  have HR := Lib.hid hr2; clear hr2
  have HWF := Lib.hid hwf; clear hwf
  have HBX := Lib.hid (below_alloc (below_alloc (Below.refl w.heap.size w) (.cells #[.int .i64 lv, .slice A1 n1 c1, .slice A2 ps.length c2] 26)) (.map #[] 0))
  have HM0 := Lib.hid (MapI.made (w.alloc (.cells #[.int .i64 lv, .slice A1 n1 c1, .slice A2 ps.length c2] 26)))
  have hmm := @run_makeMap Try.prog
  go_enter Try.func44, Try.ntmps44
  go_wp2
  go_loopw [10] (fun v10 W => ∃ m : Nat, m ≤ ps.length ∧ v10 = .int .i64 m ∧ Aside0 (MapI W (w.heap.size + 1) m (loadsC (ps.take m))) ∧ Aside0 (Below w.heap.size w W)) (fun v10 _ => ps.length - (intOf v10).toNat)
  case atStart => exact ⟨0, Nat.zero_le _, rfl, ⟨by have h : loadsC (ps.take 0) = fun _ => 0 := (by funext x; rfl); rw [h]; simpa using HM0.out⟩, ⟨HBX.out⟩⟩
  case round =>
    obtain ⟨m, hm, rfl, HM, HB⟩ := hrel
    by_cases hlt : m < ps.length
    · obtain ⟨ad, rfl, h0, h1, h2⟩ := at_T48 (Kd.C_below HR.out HB.out) m (by omega) (by omega)
      rw [Int.toNat_natCast] at h0 h1 h2
      generalize hp : rd_T48 ps m = p at *
      have HP := Lib.hid hp; clear hp
      generalize hW1 : (wr.alloc (.cells #[.int .i64 p.f0, .int .i64 p.f1, .int .i64 p.f2] 48)).alloc (.cells #[.int .i64 p.f2, .int .i64 p.f0] 3) = W1
      have hb1 : Below wr.heap.size wr W1 := by rw [← hW1]; exact below_alloc (below_alloc (Below.refl _ _) _) _
      have HO := Lib.hid (or_calls (wr.heap.size + 1) p.f2 p.f0 W1 (by rw [← hW1]; simp) (by rw [← hW1]; simp))
      have HM1 := Lib.hid (MapI.below HM.out hb1)
      have HB1 := Lib.hid (below_then HB.out HB.out.size hb1)
      have HW1 := Lib.hid hW1; clear hW1 hb1
      go_wp2_with fail
      rw [HW1.out]
      refine HO.out.mono ?_
      rintro e W2 ⟨rfl, rfl⟩
      obtain ⟨hk1, hk2⟩ := HWF.out p (by rw [← HP.out]; simp only [rd_T48, Int.toNat_natCast, List.getD_eq_getElem?_getD, List.getElem?_eq_getElem hlt, Option.getD_some]; exact List.getElem_mem _)
      rw [show or2 p.f2 p.f0 = own1 p from rfl]
      have HST := Lib.hid (loadsC_step ps m hlt (own1 p) (by rw [HP.out]))
      obtain ⟨hc1, hc2⟩ := loadsC_le (ps.take m) (own1 p)
      rw [List.length_take] at hc2
      have hlook := HM1.out.look (own1 p) ⟨by omega, by omega⟩
      obtain ⟨W3, hst, hm3, hg3⟩ := HM1.out.store (by simp only [maxLen]; omega) (own1 p) (loadsC (ps.take m) (own1 p) + 1) ⟨by omega, by omega⟩ ⟨by omega, by omega⟩
      rw [← HST.out] at hm3
      have HM3 := Lib.hid hm3; clear hm3
      have HB3 := Lib.hid (HB1.out.grown hg3 HB1.out.size (fun j hj => by cases hj; omega))
      clear hg3
      have hw : IntKind.i64.wrap (loadsC (ps.take m) (own1 p) + 1) = loadsC (ps.take m) (own1 p) + 1 := IntWalk.i64_in _ ⟨by omega, by omega⟩
      generalize own1 p = k at *
      generalize loadsC (ps.take m) k = c at *
      go_wp2
      go_roundw
      case rel => exact ⟨m + 1, by omega, by go_num, ⟨HM3.out⟩, ⟨HB3.out⟩⟩
      case measure => simp [intOf]; omega
    · obtain rfl : m = ps.length := by omega
      go_wp2
      go_ret
      exact ⟨_, rfl, by omega, by have := HM.out; rw [List.take_length] at this; obtain ⟨D, h1, h2⟩ := this; exact ⟨D, h1.mono h8, h2⟩, HB.out⟩
end Go.Proofs.Ytdbgpakmbjhmgaa.H

/- Balance's closures; MinFunc, MaxFunc. -/
namespace Go.Proofs.Ytdbgpakmbjhmgaa.H
open Go.RowKit Go.Proofs.YtdbgpakmbjhmgaaW.PrintWords Go.Proofs.YtdbgpakmbjhmgaaW.PrintLast Go.Proofs.YtdbgpakmbjhmgaaW.PrintMore
set_option linter.unusedVariables false
set_option linter.unusedSimpArgs false

/-- A cell holds a map that tells f. -/
def HasMap (B : Nat) (f : Int → Int) (W : World) : Prop := ∃ b, W.cell? ⟨B, 0, none⟩ = some (.map (some b)) ∧ MapI W b 8 f
theorem HasMap.below {W W' : World} {B : Nat} {f : Int → Int} (h : HasMap B f W) (hb : Below W.heap.size W W') : HasMap B f W' := by
  obtain ⟨b, h1, h2⟩ := h
  exact ⟨b, kept_cell hb h1, h2.below hb⟩

set_option maxHeartbeats 1000000 in
set_option maxRecDepth 100000 in
theorem bal1_calls (B : Nat) (f : Int → Int) (x y : S45) (w : World) (hm : HasMap B f w) (hx : 0 ≤ x.f0 ∧ x.f0 ≤ 100) (hy : 0 ≤ y.f0 ∧ y.f0 ≤ 100) :
    Calls Try.prog 45 #[.agg #[.int .i64 x.f0, .int .i64 x.f1], .agg #[.int .i64 y.f0, .int .i64 y.f1], .pointer (some ⟨B, 0, none⟩)] w fun e w' => e = .returned (.int .i64 (cmpI (f x.f0) (f y.f0))) ∧ Below w.heap.size w w' := by
  have hb := below_alloc (below_alloc (Below.refl w.heap.size w) (.cells #[.int .i64 x.f0, .int .i64 x.f1] 45)) (.cells #[.int .i64 y.f0, .int .i64 y.f1] 45)
  generalize hW : (w.alloc (.cells #[.int .i64 x.f0, .int .i64 x.f1] 45)).alloc (.cells #[.int .i64 y.f0, .int .i64 y.f1] 45) = W at hb
  have c0 : W.cell? ⟨w.heap.size, 0, none⟩ = some (.int .i64 x.f0) := by rw [← hW]; exact (blk_cell (alloc_on (new_at (by simp) _) _) 0).trans rfl
  have c1 : W.cell? ⟨w.heap.size + 1, 0, none⟩ = some (.int .i64 y.f0) := by rw [← hW]; exact (blk_cell (new_at (by simp) _) 0).trans rfl
  obtain ⟨b, hc, hmm⟩ := hm.below hb
  have hl1 := hmm.look x.f0 ⟨by omega, by omega⟩
  have hl2 := hmm.look y.f0 ⟨by omega, by omega⟩
  have HB := Lib.hid hb; clear hb
  have HW := Lib.hid hW; clear hW
  go_enter Try.func45, Try.ntmps45
  go_upto_region 1 with (fail)
  rw [HW.out]
  go_wp2_with (go_at_call 46; refine (compare_calls _ _ _).mono ?_; rintro e W' ⟨rfl, rfl⟩)
  go_ret
  exact ⟨rfl, HB.out⟩

theorem enter_bal1 : ∀ args w, (callFunc 45 args).run Try.prog w = .ok (.enter 45 args) w := enters_of Try.func45 (by kernel_rfl) rfl
theorem enter_bal2 : ∀ args w, (callFunc 50 args).run Try.prog w = .ok (.enter 50 args) w := enters_of Try.func50 (by kernel_rfl) rfl

def stillP (m : Int) (p : S48) : Bool := p.f0 == m && p.f2 == 0
set_option maxHeartbeats 1000000 in
set_option maxRecDepth 100000 in
theorem bal2_calls (p : S48) (B : Nat) (m : Int) (w : World) (hm : w.cell? ⟨B, 0, none⟩ = some (.int .i64 m)) :
    Calls Try.prog 50 #[.agg #[.int .i64 p.f0, .int .i64 p.f1, .int .i64 p.f2], .pointer (some ⟨B, 0, none⟩)] w fun e w' => e = .returned (.bool (stillP m p)) ∧ Below w.heap.size w w' := by
  have hb := below_alloc (Below.refl w.heap.size w) (.cells #[.int .i64 p.f0, .int .i64 p.f1, .int .i64 p.f2] 48)
  have c0 := kept_cell hb hm
  have HB := Lib.hid hb; clear hb
  have HX := Lib.hid (show stillP m p = (p.f0 == m && p.f2 == 0) from rfl)
  cases h1 : p.f0 == m
  · go_enter Try.func50, Try.ntmps50
    go_wp2
    go_ret
    exact ⟨ret_bool (by rw [HX.out, h1]; rfl), HB.out⟩
  · go_enter Try.func50, Try.ntmps50
    go_wp2
    go_ret
    exact ⟨ret_bool (by rw [HX.out, h1]; rfl), HB.out⟩

theorem two_cells {W : World} {g : Nat} {a b : Value} {t : TypeId} (h : W.heap[g]? = some (.cells #[a, b] t (0, 0))) : W.cell? ⟨g, 0, none⟩ = some a ∧ W.cell? ⟨g, 1, none⟩ = some b ∧ W.frozen? ⟨g, 0, none⟩ = false ∧ W.frozen? ⟨g, 1, none⟩ = false ∧ g < W.heap.size :=
  ⟨(blk_cell h 0).trans rfl, (blk_cell h 1).trans rfl, blk_frozen h _, blk_frozen h _, blk_lt h⟩
theorem blk_other {W : World} {g : Nat} {o : Option Obj} (h : W.heap[g]? = o) (a : Addr) (v : Value) (hne : g ≠ a.block) : (W.setCell a v).heap[g]? = o := by
  rw [← h]
  exact Below.heap_setCell W a v g hne
theorem ret_M {fn : Func} {a : Act} {W : World} {g p : Nat} {x : S45} {R : Ending → World → Prop} (hres : fn.results = #[.cell p 45]) (hp : a.tmps.getD p undef = .pointer (some ⟨g, 0, none⟩)) (hd : a.defers = [])
    (hg : W.heap[g]? = some (.cells #[.int .i64 x.f0, .int .i64 x.f1] 45 (0, 0))) (hR : R (.returned (.agg #[.int .i64 x.f0, .int .i64 x.f1])) W) : bodyPost Try.prog fn R .ret a W := by
  refine bodyPost_ret (v := .agg #[.int .i64 x.f0, .int .i64 x.f1]) ?_ hd hR
  exact results_single hres (.cell g 45 _ (0, 0) _ hp hg Try.underlying45 rfl (by kernel_rfl) .nil)

def bestMin (f : Int → Int) : S45 → List S45 → S45
  | m, [] => m
  | m, x :: xs => bestMin f (if f x.f0 < f m.f0 then x else m) xs

set_option maxHeartbeats 4000000 in
set_option maxRecDepth 100000 in
theorem MinFunc_calls (B : Nat) (f : Int → Int) (A : Option Addr) (c : Nat) (x0 : S45) (l : List S45) (w : World) (hr : Kd.C k45 w A (x0 :: l).length (x0 :: l)) (hm : HasMap B f w) (hwf : ∀ m ∈ x0 :: l, 0 ≤ m.f0 ∧ m.f0 ≤ 100) :
    Calls Try.prog 47 #[.slice A (x0 :: l).length c, .func (.func 45) #[] #[.pointer (some ⟨B, 0, none⟩)]] w fun e w' =>
      e = .returned (.agg #[.int .i64 (bestMin f x0 l).f0, .int .i64 (bestMin f x0 l).f1]) ∧ bestMin f x0 l ∈ x0 :: l ∧ Below w.heap.size w w' := by
  have HR := Lib.hid hr; clear hr
  have HM := Lib.hid hm; clear hm
  have HWF := Lib.hid hwf; clear hwf
  have hl1 : 1 ≤ (x0 :: l).length := by simp
  have hmax : (x0 :: l).length ≤ 9223372036854775807 := HR.out.2.1
  have HBE := Lib.hid (show bestMin f x0 l = bestMin f x0 ((x0 :: l).drop 1) by rw [List.drop_one]; rfl)
  have HIN := Lib.hid (show x0 ∈ x0 :: l from List.mem_cons_self ..)
  obtain ⟨ad0, hA0, y0, y1⟩ := at_T45 HR.out 0 (by omega) (by omega)
  have e0 : ad0.add ((0 : Int).toNat * 2) = ad0 := by simp [Addr.add]
  rw [e0] at y0 y1; clear e0
  have hrd : rd_T45 (x0 :: l) 0 = x0 := rfl
  rw [hrd] at y0 y1; clear hrd
  generalize bestMin f x0 l = best at *
  generalize x0 :: l = ls at *
  subst hA0
  have hbz := below_alloc (Below.refl w.heap.size w) (.cells #[.int .i64 0, .int .i64 0] 45)
  have z0 := kept_cell hbz y0
  have z1 := kept_cell hbz y1
  clear y0 y1 hbz
  generalize hW1 : (w.alloc (.cells #[.int .i64 0, .int .i64 0] 45)).alloc (.cells #[.int .i64 x0.f0, .int .i64 x0.f1] 45) = W1
  have HB1 := Lib.hid (show Below w.heap.size w W1 by rw [← hW1]; exact below_alloc (below_alloc (Below.refl _ _) _) _)
  have HZ1 := Lib.hid (show W1.heap[w.heap.size]? = some (.cells #[.int .i64 0, .int .i64 0] 45 (0, 0)) by rw [← hW1]; exact alloc_on (new_at (by simp) _) _)
  have HX1 := Lib.hid (show W1.heap[w.heap.size + 1]? = some (.cells #[.int .i64 x0.f0, .int .i64 x0.f1] 45 (0, 0)) by rw [← hW1]; exact new_at (by simp) _)
  have HW1 := Lib.hid hW1; clear hW1
  go_enter Try.func47, Try.ntmps47
  go_upto_region 4 with (fail)
  rw [HW1.out]
  go_wp2
  go_loopw [6] (fun v6 W => ∃ i : Nat, 1 ≤ i ∧ i ≤ ls.length ∧ v6 = .int .i64 i ∧ Aside0 (∃ cur, best = bestMin f cur (ls.drop i) ∧ cur ∈ ls ∧ W.heap[w.heap.size + 1]? = some (.cells #[.int .i64 cur.f0, .int .i64 cur.f1] 45 (0, 0)) ∧ W.heap[w.heap.size]? = some (.cells #[.int .i64 0, .int .i64 0] 45 (0, 0)) ∧ Below w.heap.size w W)) (fun v6 _ => ls.length - (intOf v6).toNat)
  case atStart => exact ⟨1, Nat.le_refl _, hl1, rfl, ⟨x0, HBE.out, HIN.out, HX1.out, HZ1.out, HB1.out⟩⟩
  case round =>
    obtain ⟨i, hi1, hi2, rfl, HH⟩ := hrel
    clear z0 z1 HBE HX1 HZ1 HW1 HB1 HIN
    obtain ⟨cur, hbe, hin, hx, hz, hb⟩ := HH.out
    have HBE := Lib.hid hbe; clear hbe
    have HIN := Lib.hid hin; clear hin
    have HX := Lib.hid hx; clear hx
    have HZ := Lib.hid hz; clear hz
    have HB := Lib.hid hb; clear hb
    obtain ⟨x0c, x1c, _, _, _⟩ := two_cells HX.out
    by_cases hlt : i < ls.length
    · obtain ⟨ad, had, h0, h1⟩ := at_T45 (Kd.C_below HR.out HB.out) i (by omega) (by omega)
      injection had with had
      subst had
      rw [Int.toNat_natCast] at h0 h1
      have hxin : rd_T45 ls i ∈ ls := by simp only [rd_T45, Int.toNat_natCast, List.getD_eq_getElem?_getD, List.getElem?_eq_getElem hlt, Option.getD_some]; exact List.getElem_mem _
      have hst : ls.drop i = rd_T45 ls i :: ls.drop (i + 1) := by
        rw [List.drop_eq_getElem_cons hlt]
        simp only [rd_T45, Int.toNat_natCast, List.getD_eq_getElem?_getD, List.getElem?_eq_getElem hlt, Option.getD_some]
      have HXIN := Lib.hid hxin; clear hxin
      have HST := Lib.hid hst; clear hst
      generalize rd_T45 ls i = x at *
      have HBE2 := Lib.hid (show best = bestMin f (if f x.f0 < f cur.f0 then x else cur) (ls.drop (i + 1)) by rw [HBE.out, HST.out]; rfl)
      have c1 : (0 : Int) ≤ i := by omega
      have c2 : (i : Int) < ls.length := by omega
      have hkp : ∀ W W2 : World, (W.cell? (ad0.add (i * 2)) = some (.int .i64 x.f0) ∧ W.cell? ⟨(ad0.add (i * 2)).block, (ad0.add (i * 2)).off + 1, none⟩ = some (.int .i64 x.f1) ∧ W.cell? ⟨w.heap.size + 1, 0, none⟩ = some (.int .i64 cur.f0) ∧ W.cell? ⟨w.heap.size + 1, 1, none⟩ = some (.int .i64 cur.f1) ∧ Aside0 (Below wr.heap.size wr W)) → Below W.heap.size W W2 →
          (W2.cell? (ad0.add (i * 2)) = some (.int .i64 x.f0) ∧ W2.cell? ⟨(ad0.add (i * 2)).block, (ad0.add (i * 2)).off + 1, none⟩ = some (.int .i64 x.f1) ∧ W2.cell? ⟨w.heap.size + 1, 0, none⟩ = some (.int .i64 cur.f0) ∧ W2.cell? ⟨w.heap.size + 1, 1, none⟩ = some (.int .i64 cur.f1) ∧ Aside0 (Below wr.heap.size wr W2)) := fun W W2 h hb => ⟨kept_cell hb h.1, kept_cell hb h.2.1, kept_cell hb h.2.2.1, kept_cell hb h.2.2.2.1, ⟨below_then h.2.2.2.2.out h.2.2.2.2.out.size hb⟩⟩
      have HKP := Lib.hid hkp; clear hkp
      have hs0 := And.intro h0 (And.intro h1 (And.intro x0c (And.intro x1c (Aside0.mk (Below.refl wr.heap.size wr)))))
      go_wp2_with fail
      go_region_held3 (fun W => W.cell? (ad0.add (i * 2)) = some (.int .i64 x.f0) ∧ W.cell? ⟨(ad0.add (i * 2)).block, (ad0.add (i * 2)).off + 1, none⟩ = some (.int .i64 x.f1) ∧ W.cell? ⟨w.heap.size + 1, 0, none⟩ = some (.int .i64 cur.f0) ∧ W.cell? ⟨w.heap.size + 1, 1, none⟩ = some (.int .i64 cur.f1) ∧ Aside0 (Below wr.heap.size wr W))
        (first | assumption | exact HKP.out _ _ (by assumption) (below_drew (Below.refl _ _)) | go_keep)
        (first | (go_at_call 45; refine (bal1_calls B f x cur _ ?hmm (HWF.out x HXIN.out) (HWF.out cur HIN.out)).mono ?_; (case hmm => exact HasMap.below (HasMap.below HM.out HB.out) (by assumption : _ ∧ _ ∧ _ ∧ _ ∧ Aside0 _).2.2.2.2.out); rintro e W2 ⟨rfl, hb2⟩; have hs2 := HKP.out _ _ (by assumption) hb2))
      obtain ⟨p0, p1, p2, p3, p4⟩ := hs2
      have HX2 := Lib.hid ((p4.out.block _ (blk_lt HX.out)).trans HX.out)
      have HZ2 := Lib.hid ((p4.out.block _ (blk_lt HZ.out)).trans HZ.out)
      have HB2 := Lib.hid (below_then HB.out HB.out.size p4.out)
      clear hs0 h0 h1 x0c x1c hb2 p4 HKP
      by_cases hxy : f x.f0 < f cur.f0
      · have hq : cmpI (f x.f0) (f cur.f0) < 0 := by unfold cmpI; split <;> (first | omega | (split <;> omega))
        have hqd : decide (cmpI (f x.f0) (f cur.f0) < 0) = true := decide_eq_true hq
        have HQ := Lib.hid (HBE2.out.trans (by rw [if_pos hxy]) : best = bestMin f x (ls.drop (i + 1)))
        clear hxy
        obtain ⟨q2, q3, q4, q5, q6⟩ := two_cells HX2.out
        go_wp2
        have e1 := blk_set HX2.out 0 (.int .i64 x.f0)
        have e2 := blk_set e1 1 (.int .i64 x.f1)
        have HE2 := Lib.hid e2; clear e1 e2
        have HZ3 := Lib.hid (blk_other (blk_other HZ2.out ⟨w.heap.size + 1, 0, none⟩ (.int .i64 x.f0) (by simp)) ⟨w.heap.size + 1, 1, none⟩ (.int .i64 x.f1) (by simp))
        have HB3 := Lib.hid (below_set (g := w.heap.size + 1) (j := 1) (v := .int .i64 x.f1) (below_set (g := w.heap.size + 1) (j := 0) (v := .int .i64 x.f0) HB2.out (by simp)) (by simp))
        go_roundw
        case rel => exact ⟨i + 1, by omega, by omega, by go_num, ⟨x, HQ.out, HXIN.out, by simpa using HE2.out, HZ3.out, HB3.out⟩⟩
        case measure => simp [intOf]; omega
      · have hq : 0 ≤ cmpI (f x.f0) (f cur.f0) := by unfold cmpI; split <;> (first | omega | (split <;> omega))
        have hqd : decide (cmpI (f x.f0) (f cur.f0) < 0) = false := decide_eq_false (by omega)
        have HQ := Lib.hid (HBE2.out.trans (by rw [if_neg hxy]) : best = bestMin f cur (ls.drop (i + 1)))
        clear hxy
        go_wp2
        go_roundw
        case rel => exact ⟨i + 1, by omega, by omega, by go_num, ⟨cur, HQ.out, HIN.out, HX2.out, HZ2.out, HB2.out⟩⟩
        case measure => simp [intOf]; omega
    · obtain rfl : i = ls.length := by omega
      have HBQ := Lib.hid (HBE.out.trans (by rw [List.drop_length]; rfl) : best = cur)
      obtain ⟨q2, q3, q4, q5, q6⟩ := two_cells HZ.out
      go_wp2
      have e1 := blk_set HZ.out 0 (.int .i64 cur.f0)
      have e2 := blk_set e1 1 (.int .i64 cur.f1)
      refine ret_M (g := w.heap.size) (x := cur) Try.results47 rfl rfl (by simpa using e2) ?_
      exact ⟨by rw [HBQ.out], by rw [HBQ.out]; exact HIN.out, below_set (below_set HB.out (Nat.le_refl _)) (Nat.le_refl _)⟩

def bestMax (f : Int → Int) : S45 → List S45 → S45
  | m, [] => m
  | m, x :: xs => bestMax f (if f m.f0 < f x.f0 then x else m) xs

set_option maxHeartbeats 4000000 in
set_option maxRecDepth 100000 in
theorem MaxFunc_calls (B : Nat) (f : Int → Int) (A : Option Addr) (c : Nat) (x0 : S45) (l : List S45) (w : World) (hr : Kd.C k45 w A (x0 :: l).length (x0 :: l)) (hm : HasMap B f w) (hwf : ∀ m ∈ x0 :: l, 0 ≤ m.f0 ∧ m.f0 ≤ 100) :
    Calls Try.prog 48 #[.slice A (x0 :: l).length c, .func (.func 45) #[] #[.pointer (some ⟨B, 0, none⟩)]] w fun e w' =>
      e = .returned (.agg #[.int .i64 (bestMax f x0 l).f0, .int .i64 (bestMax f x0 l).f1]) ∧ bestMax f x0 l ∈ x0 :: l ∧ Below w.heap.size w w' := by
  have HR := Lib.hid hr; clear hr
  have HM := Lib.hid hm; clear hm
  have HWF := Lib.hid hwf; clear hwf
  have hl1 : 1 ≤ (x0 :: l).length := by simp
  have hmax : (x0 :: l).length ≤ 9223372036854775807 := HR.out.2.1
  have HBE := Lib.hid (show bestMax f x0 l = bestMax f x0 ((x0 :: l).drop 1) by rw [List.drop_one]; rfl)
  have HIN := Lib.hid (show x0 ∈ x0 :: l from List.mem_cons_self ..)
  obtain ⟨ad0, hA0, y0, y1⟩ := at_T45 HR.out 0 (by omega) (by omega)
  have e0 : ad0.add ((0 : Int).toNat * 2) = ad0 := by simp [Addr.add]
  rw [e0] at y0 y1; clear e0
  have hrd : rd_T45 (x0 :: l) 0 = x0 := rfl
  rw [hrd] at y0 y1; clear hrd
  generalize bestMax f x0 l = best at *
  generalize x0 :: l = ls at *
  subst hA0
  have hbz := below_alloc (Below.refl w.heap.size w) (.cells #[.int .i64 0, .int .i64 0] 45)
  have z0 := kept_cell hbz y0
  have z1 := kept_cell hbz y1
  clear y0 y1 hbz
  generalize hW1 : (w.alloc (.cells #[.int .i64 0, .int .i64 0] 45)).alloc (.cells #[.int .i64 x0.f0, .int .i64 x0.f1] 45) = W1
  have HB1 := Lib.hid (show Below w.heap.size w W1 by rw [← hW1]; exact below_alloc (below_alloc (Below.refl _ _) _) _)
  have HZ1 := Lib.hid (show W1.heap[w.heap.size]? = some (.cells #[.int .i64 0, .int .i64 0] 45 (0, 0)) by rw [← hW1]; exact alloc_on (new_at (by simp) _) _)
  have HX1 := Lib.hid (show W1.heap[w.heap.size + 1]? = some (.cells #[.int .i64 x0.f0, .int .i64 x0.f1] 45 (0, 0)) by rw [← hW1]; exact new_at (by simp) _)
  have HW1 := Lib.hid hW1; clear hW1
  go_enter Try.func48, Try.ntmps48
  go_upto_region 4 with (fail)
  rw [HW1.out]
  go_wp2
  go_loopw [6] (fun v6 W => ∃ i : Nat, 1 ≤ i ∧ i ≤ ls.length ∧ v6 = .int .i64 i ∧ Aside0 (∃ cur, best = bestMax f cur (ls.drop i) ∧ cur ∈ ls ∧ W.heap[w.heap.size + 1]? = some (.cells #[.int .i64 cur.f0, .int .i64 cur.f1] 45 (0, 0)) ∧ W.heap[w.heap.size]? = some (.cells #[.int .i64 0, .int .i64 0] 45 (0, 0)) ∧ Below w.heap.size w W)) (fun v6 _ => ls.length - (intOf v6).toNat)
  case atStart => exact ⟨1, Nat.le_refl _, hl1, rfl, ⟨x0, HBE.out, HIN.out, HX1.out, HZ1.out, HB1.out⟩⟩
  case round =>
    obtain ⟨i, hi1, hi2, rfl, HH⟩ := hrel
    clear z0 z1 HBE HX1 HZ1 HW1 HB1 HIN
    obtain ⟨cur, hbe, hin, hx, hz, hb⟩ := HH.out
    have HBE := Lib.hid hbe; clear hbe
    have HIN := Lib.hid hin; clear hin
    have HX := Lib.hid hx; clear hx
    have HZ := Lib.hid hz; clear hz
    have HB := Lib.hid hb; clear hb
    obtain ⟨x0c, x1c, _, _, _⟩ := two_cells HX.out
    by_cases hlt : i < ls.length
    · obtain ⟨ad, had, h0, h1⟩ := at_T45 (Kd.C_below HR.out HB.out) i (by omega) (by omega)
      injection had with had
      subst had
      rw [Int.toNat_natCast] at h0 h1
      have hxin : rd_T45 ls i ∈ ls := by simp only [rd_T45, Int.toNat_natCast, List.getD_eq_getElem?_getD, List.getElem?_eq_getElem hlt, Option.getD_some]; exact List.getElem_mem _
      have hst : ls.drop i = rd_T45 ls i :: ls.drop (i + 1) := by
        rw [List.drop_eq_getElem_cons hlt]
        simp only [rd_T45, Int.toNat_natCast, List.getD_eq_getElem?_getD, List.getElem?_eq_getElem hlt, Option.getD_some]
      have HXIN := Lib.hid hxin; clear hxin
      have HST := Lib.hid hst; clear hst
      generalize rd_T45 ls i = x at *
      have HBE2 := Lib.hid (show best = bestMax f (if f cur.f0 < f x.f0 then x else cur) (ls.drop (i + 1)) by rw [HBE.out, HST.out]; rfl)
      have c1 : (0 : Int) ≤ i := by omega
      have c2 : (i : Int) < ls.length := by omega
      have hkp : ∀ W W2 : World, (W.cell? (ad0.add (i * 2)) = some (.int .i64 x.f0) ∧ W.cell? ⟨(ad0.add (i * 2)).block, (ad0.add (i * 2)).off + 1, none⟩ = some (.int .i64 x.f1) ∧ W.cell? ⟨w.heap.size + 1, 0, none⟩ = some (.int .i64 cur.f0) ∧ W.cell? ⟨w.heap.size + 1, 1, none⟩ = some (.int .i64 cur.f1) ∧ Aside0 (Below wr.heap.size wr W)) → Below W.heap.size W W2 →
          (W2.cell? (ad0.add (i * 2)) = some (.int .i64 x.f0) ∧ W2.cell? ⟨(ad0.add (i * 2)).block, (ad0.add (i * 2)).off + 1, none⟩ = some (.int .i64 x.f1) ∧ W2.cell? ⟨w.heap.size + 1, 0, none⟩ = some (.int .i64 cur.f0) ∧ W2.cell? ⟨w.heap.size + 1, 1, none⟩ = some (.int .i64 cur.f1) ∧ Aside0 (Below wr.heap.size wr W2)) := fun W W2 h hb => ⟨kept_cell hb h.1, kept_cell hb h.2.1, kept_cell hb h.2.2.1, kept_cell hb h.2.2.2.1, ⟨below_then h.2.2.2.2.out h.2.2.2.2.out.size hb⟩⟩
      have HKP := Lib.hid hkp; clear hkp
      have hs0 := And.intro h0 (And.intro h1 (And.intro x0c (And.intro x1c (Aside0.mk (Below.refl wr.heap.size wr)))))
      go_wp2_with fail
      go_region_held3 (fun W => W.cell? (ad0.add (i * 2)) = some (.int .i64 x.f0) ∧ W.cell? ⟨(ad0.add (i * 2)).block, (ad0.add (i * 2)).off + 1, none⟩ = some (.int .i64 x.f1) ∧ W.cell? ⟨w.heap.size + 1, 0, none⟩ = some (.int .i64 cur.f0) ∧ W.cell? ⟨w.heap.size + 1, 1, none⟩ = some (.int .i64 cur.f1) ∧ Aside0 (Below wr.heap.size wr W))
        (first | assumption | exact HKP.out _ _ (by assumption) (below_drew (Below.refl _ _)) | go_keep)
        (first | (go_at_call 45; refine (bal1_calls B f x cur _ ?hmm (HWF.out x HXIN.out) (HWF.out cur HIN.out)).mono ?_; (case hmm => exact HasMap.below (HasMap.below HM.out HB.out) (by assumption : _ ∧ _ ∧ _ ∧ _ ∧ Aside0 _).2.2.2.2.out); rintro e W2 ⟨rfl, hb2⟩; have hs2 := HKP.out _ _ (by assumption) hb2))
      obtain ⟨p0, p1, p2, p3, p4⟩ := hs2
      have HX2 := Lib.hid ((p4.out.block _ (blk_lt HX.out)).trans HX.out)
      have HZ2 := Lib.hid ((p4.out.block _ (blk_lt HZ.out)).trans HZ.out)
      have HB2 := Lib.hid (below_then HB.out HB.out.size p4.out)
      clear hs0 h0 h1 x0c x1c hb2 p4 HKP
      by_cases hxy : f cur.f0 < f x.f0
      · have hq : 0 < cmpI (f x.f0) (f cur.f0) := by unfold cmpI; split <;> (first | omega | (split <;> omega))
        have hqd : decide (0 < cmpI (f x.f0) (f cur.f0)) = true := decide_eq_true hq
        have HQ := Lib.hid (HBE2.out.trans (by rw [if_pos hxy]) : best = bestMax f x (ls.drop (i + 1)))
        clear hxy
        obtain ⟨q2, q3, q4, q5, q6⟩ := two_cells HX2.out
        go_wp2
        have e1 := blk_set HX2.out 0 (.int .i64 x.f0)
        have e2 := blk_set e1 1 (.int .i64 x.f1)
        have HE2 := Lib.hid e2; clear e1 e2
        have HZ3 := Lib.hid (blk_other (blk_other HZ2.out ⟨w.heap.size + 1, 0, none⟩ (.int .i64 x.f0) (by simp)) ⟨w.heap.size + 1, 1, none⟩ (.int .i64 x.f1) (by simp))
        have HB3 := Lib.hid (below_set (g := w.heap.size + 1) (j := 1) (v := .int .i64 x.f1) (below_set (g := w.heap.size + 1) (j := 0) (v := .int .i64 x.f0) HB2.out (by simp)) (by simp))
        go_roundw
        case rel => exact ⟨i + 1, by omega, by omega, by go_num, ⟨x, HQ.out, HXIN.out, by simpa using HE2.out, HZ3.out, HB3.out⟩⟩
        case measure => simp [intOf]; omega
      · have hq : cmpI (f x.f0) (f cur.f0) ≤ 0 := by unfold cmpI; split <;> (first | omega | (split <;> omega))
        have hqd : decide (0 < cmpI (f x.f0) (f cur.f0)) = false := decide_eq_false (by omega)
        have HQ := Lib.hid (HBE2.out.trans (by rw [if_neg hxy]) : best = bestMax f cur (ls.drop (i + 1)))
        clear hxy
        go_wp2
        go_roundw
        case rel => exact ⟨i + 1, by omega, by omega, by go_num, ⟨cur, HQ.out, HIN.out, HX2.out, HZ2.out, HB2.out⟩⟩
        case measure => simp [intOf]; omega
    · obtain rfl : i = ls.length := by omega
      have HBQ := Lib.hid (HBE.out.trans (by rw [List.drop_length]; rfl) : best = cur)
      obtain ⟨q2, q3, q4, q5, q6⟩ := two_cells HZ.out
      go_wp2
      have e1 := blk_set HZ.out 0 (.int .i64 cur.f0)
      have e2 := blk_set e1 1 (.int .i64 cur.f1)
      refine ret_M (g := w.heap.size) (x := cur) Try.results48 rfl rfl (by simpa using e2) ?_
      exact ⟨by rw [HBQ.out], by rw [HBQ.out]; exact HIN.out, below_set (below_set HB.out (Nat.le_refl _)) (Nat.le_refl _)⟩
end Go.Proofs.Ytdbgpakmbjhmgaa.H

/- Balance. -/
namespace Go.Proofs.Ytdbgpakmbjhmgaa.H
open Go.RowKit Go.Proofs.YtdbgpakmbjhmgaaW.PrintWords Go.Proofs.YtdbgpakmbjhmgaaW.PrintLast Go.Proofs.YtdbgpakmbjhmgaaW.PrintMore
set_option linter.unusedVariables false
set_option linter.unusedSimpArgs false

def balTo (ms : List S45) (ps : List S48) : Int := match ms with | [] => 0 | m :: l => (bestMin (loadsC ps) m l).f0
def balFrom (ms : List S45) (ps : List S48) : Int := match ms with | [] => 0 | m :: l => (bestMax (loadsC ps) m l).f0
def balAt (ms : List S45) (ps : List S48) : Int := idx (stillP (balFrom ms ps)) ps 0
def balanceC (lv : Int) (ms : List S45) (ps : List S48) : Int × Int × Bool :=
  if rightC lv ms ps = false then (0, 0, false) else if balAt ms ps < 0 then (0, 0, false) else if loadsC ps (balFrom ms ps) - loadsC ps (balTo ms ps) < 2 then (0, 0, false) else (balAt ms ps, balTo ms ps, true)

theorem field0M (x y : Int) (W : World) : (Instr.field 45 (.agg #[.int .i64 x, .int .i64 y]) 0).run Try.prog W = .ok (.int .i64 x) W := by kernel_rfl
theorem one_cell {W : World} {g : Nat} {a : Value} {t : TypeId} (h : W.heap[g]? = some (.cells #[a] t (0, 0))) : W.cell? ⟨g, 0, none⟩ = some a ∧ W.frozen? ⟨g, 0, none⟩ = false ∧ g < W.heap.size :=
  ⟨(blk_cell h 0).trans rfl, blk_frozen h _, blk_lt h⟩

theorem membersGo_facts (lv : Int) : ∀ (ms : List S45) (last : Int), 0 ≤ last → membersGo lv ms last = true → ∀ m ∈ ms, 0 ≤ m.f0 ∧ m.f0 ≤ 100
  | [], _, _, _ => fun m hm => by cases hm
  | x :: xs, last, h0, h => by
    rw [membersGo] at h
    split at h
    · cases h
    · rename_i hx
      have h1 : 0 < x.f0 := by omega
      have h2 : x.f0 ≤ 100 := by omega
      intro m hm
      rcases List.mem_cons.1 hm with rfl | hm
      · exact ⟨by omega, h2⟩
      · exact membersGo_facts lv xs x.f0 (by omega) h m hm
theorem hasM_bound {ms : List S45} {x : Int} (hmm : ∀ m ∈ ms, 0 ≤ m.f0 ∧ m.f0 ≤ 100) (h : hasM ms x = true) : 0 ≤ x ∧ x ≤ 100 := by
  obtain ⟨m, hm, hn⟩ := List.any_eq_true.1 h
  have : m.f0 = x := by simpa [named] using hn
  exact this ▸ hmm m hm
/-- What a right controller keeps. -/
theorem right_facts {lv : Int} {ms : List S45} {ps : List S48} (h : rightC lv ms ps = true) : ms ≠ [] ∧ (∀ m ∈ ms, 0 ≤ m.f0 ∧ m.f0 ≤ 100) ∧ ps.length ≤ 8 ∧ ∀ p ∈ ps, 0 ≤ own1 p ∧ own1 p ≤ 100 := by
  simp only [rightC, Bool.and_eq_true, decide_eq_true_eq, Bool.not_eq_true'] at h
  obtain ⟨_, hm, _, h8, hodd⟩ := h
  simp only [membersOk, Bool.and_eq_true, decide_eq_true_eq] at hm
  obtain ⟨hg, hl1, _⟩ := hm
  have hmm := membersGo_facts lv ms 0 (Int.le_refl _) hg
  refine ⟨fun e => by rw [e] at hl1; simp at hl1, hmm, h8, ?_⟩
  intro p hp
  have ho : oddP ms p = false := by
    have := List.any_eq_false.1 hodd p hp
    simpa using this
  simp only [oddP] at ho
  unfold own1 or2
  simp only [Bool.or_eq_false_iff, Bool.and_eq_false_imp, Bool.not_eq_false', Bool.not_eq_true', decide_eq_false_iff_not] at ho
  obtain ⟨⟨⟨ho1, _⟩, _⟩, ho2⟩ := ho
  split
  · exact hasM_bound hmm ho1
  · rename_i hz
    exact hasM_bound hmm (ho2 (by simpa using hz)).1

theorem minFunc_calls' (B : Nat) (ps : List S48) (A : Option Addr) (c : Nat) (ms : List S45) (hne : ms ≠ []) (w : World) (hr : Kd.C k45 w A ms.length ms) (hm : HasMap B (loadsC ps) w) (hwf : ∀ m ∈ ms, 0 ≤ m.f0 ∧ m.f0 ≤ 100) :
    Calls Try.prog 47 #[.slice A ms.length c, .func (.func 45) #[] #[.pointer (some ⟨B, 0, none⟩)]] w fun e w' =>
      ∃ y, e = .returned (.agg #[.int .i64 (balTo ms ps), .int .i64 y]) ∧ Below w.heap.size w w' := by
  obtain ⟨x0, l, rfl⟩ := List.exists_cons_of_ne_nil hne
  exact (MinFunc_calls B (loadsC ps) A c x0 l w hr hm hwf).mono (fun e w' h => ⟨_, h.1, h.2.2⟩)
theorem balTo_in (ps : List S48) (l : List S45) (P : Int → Prop) : ∀ (m : S45), (∀ x ∈ m :: l, P x.f0) → P (bestMin (loadsC ps) m l).f0 := by
  induction l with
  | nil => intro m h; exact h m (List.mem_cons_self ..)
  | cons x xs ih =>
    intro m h
    rw [bestMin]
    apply ih
    intro y hy
    rcases List.mem_cons.1 hy with rfl | hy
    · split
      · exact h x (by simp)
      · exact h m (by simp)
    · exact h y (by simp [hy])
theorem balTo_bound (ps : List S48) (ms : List S45) (hwf : ∀ m ∈ ms, 0 ≤ m.f0 ∧ m.f0 ≤ 100) : 0 ≤ balTo ms ps ∧ balTo ms ps ≤ 100 := by
  cases ms with
  | nil => exact ⟨Int.le_refl _, show (0 : Int) ≤ 100 by decide⟩
  | cons m l => exact balTo_in ps l (fun x => 0 ≤ x ∧ x ≤ 100) m hwf
theorem maxFunc_calls' (B : Nat) (ps : List S48) (A : Option Addr) (c : Nat) (ms : List S45) (hne : ms ≠ []) (w : World) (hr : Kd.C k45 w A ms.length ms) (hm : HasMap B (loadsC ps) w) (hwf : ∀ m ∈ ms, 0 ≤ m.f0 ∧ m.f0 ≤ 100) :
    Calls Try.prog 48 #[.slice A ms.length c, .func (.func 45) #[] #[.pointer (some ⟨B, 0, none⟩)]] w fun e w' =>
      ∃ y, e = .returned (.agg #[.int .i64 (balFrom ms ps), .int .i64 y]) ∧ Below w.heap.size w w' := by
  obtain ⟨x0, l, rfl⟩ := List.exists_cons_of_ne_nil hne
  exact (MaxFunc_calls B (loadsC ps) A c x0 l w hr hm hwf).mono (fun e w' h => ⟨_, h.1, h.2.2⟩)
theorem balFrom_in (ps : List S48) (l : List S45) (P : Int → Prop) : ∀ (m : S45), (∀ x ∈ m :: l, P x.f0) → P (bestMax (loadsC ps) m l).f0 := by
  induction l with
  | nil => intro m h; exact h m (List.mem_cons_self ..)
  | cons x xs ih =>
    intro m h
    rw [bestMax]
    apply ih
    intro y hy
    rcases List.mem_cons.1 hy with rfl | hy
    · split
      · exact h x (by simp)
      · exact h m (by simp)
    · exact h y (by simp [hy])
theorem balFrom_bound (ps : List S48) (ms : List S45) (hwf : ∀ m ∈ ms, 0 ≤ m.f0 ∧ m.f0 ≤ 100) : 0 ≤ balFrom ms ps ∧ balFrom ms ps ≤ 100 := by
  cases ms with
  | nil => exact ⟨Int.le_refl _, show (0 : Int) ≤ 100 by decide⟩
  | cons m l => exact balFrom_in ps l (fun x => 0 ≤ x ∧ x ≤ 100) m hwf
set_option maxHeartbeats 4000000 in
set_option maxRecDepth 100000 in
theorem balance_calls (lv : Int) (A1 : Option Addr) (c1 : Nat) (ms : List S45) (A2 : Option Addr) (c2 : Nat) (ps : List S48) (w : World)
    (hr1 : Kd.C k45 w A1 ms.length ms) (hr2 : Kd.C k48 w A2 ps.length ps) :
    Calls Try.prog 20 #[.agg #[.int .i64 lv, .slice A1 ms.length c1, .slice A2 ps.length c2]] w fun e w' => e = .returned (.tuple #[.int .i64 (balanceC lv ms ps).1, .int .i64 (balanceC lv ms ps).2.1, .bool (balanceC lv ms ps).2.2]) ∧ Below w.heap.size w w' := by
  have HR1 := Lib.hid hr1; clear hr1
  have HR2 := Lib.hid hr2; clear hr2
  generalize hW0 : w.alloc (.cells #[.int .i64 lv, .slice A1 ms.length c1, .slice A2 ps.length c2] 26) = W0
  have HB0 := Lib.hid (show Below w.heap.size w W0 by rw [← hW0]; exact below_alloc (Below.refl _ _) _)
  have HK0 := Lib.hid (show W0.heap[w.heap.size]? = some (.cells #[.int .i64 lv, .slice A1 ms.length c1, .slice A2 ps.length c2] 26 (0, 0)) by rw [← hW0]; exact new_at (by simp) _)
  have HCR := Lib.hid (right_calls lv A1 c1 ms A2 c2 ps W0 (Kd.C_below HR1.out HB0.out) (Kd.C_below HR2.out HB0.out))
  have HX := Lib.hid (show balanceC lv ms ps = if rightC lv ms ps = false then (0, 0, false) else if balAt ms ps < 0 then (0, 0, false) else if loadsC ps (balFrom ms ps) - loadsC ps (balTo ms ps) < 2 then (0, 0, false) else (balAt ms ps, balTo ms ps, true) from rfl)
  have HW0 := Lib.hid hW0; clear hW0
  generalize balanceC lv ms ps = r at *
  obtain ⟨k0, k1, k2, _, _, _, _⟩ := three_cells HK0.out
  go_enter Try.func20, Try.ntmps20
  go_wp2_with fail
  rw [HW0.out]
  go_wp2_with fail
  refine HCR.out.mono ?_
  rintro e W1 ⟨rfl, hb1⟩
  have HB1 := Lib.hid (below_then HB0.out HB0.out.size hb1)
  have HK1 := Lib.hid (kept_on hb1 HK0.out)
  clear k0 k1 k2 hb1
  obtain ⟨k0, k1, k2, _, _, _, _⟩ := three_cells HK1.out
  cases hrt : rightC lv ms ps
  · have HR := Lib.hid (HX.out.trans (if_pos hrt)); clear hrt
    go_wp2
    exact bodyPost_ret (v := .tuple #[.int .i64 0, .int .i64 0, .bool false]) (results_tmp3 Try.results20 _ _ _) rfl ⟨by rw [HR.out], HB1.out⟩
  · have HRT := Lib.hid hrt
    have HXX := Lib.hid (HX.out.trans (if_neg (by rw [hrt]; decide))); clear hrt HX
    obtain ⟨hne, hmf, hp8, hpf⟩ := right_facts HRT.out
    have HLD := Lib.hid (loads_calls lv A1 ms.length c1 A2 c2 ps W1 (Kd.C_below HR2.out HB1.out) hp8 hpf)
    go_wp2_with fail
    refine HLD.out.mono ?_
    rintro e W2 ⟨b, rfl, hbb, hmap, hb2⟩
    generalize hW3 : W2.alloc (.cells #[.map (some b)] 65) = W3
    have hb3 : Below W2.heap.size W2 W3 := by rw [← hW3]; exact below_alloc (Below.refl _ _) _
    have HC3 := Lib.hid (show W3.heap[W2.heap.size]? = some (.cells #[.map (some b)] 65 (0, 0)) by rw [← hW3]; exact heap_alloc_new W2 _)
    have HM3 := Lib.hid (show HasMap W2.heap.size (loadsC ps) W3 from ⟨b, (one_cell HC3.out).1, hmap.below hb3⟩)
    have HB3 := Lib.hid (below_then (below_then HB1.out HB1.out.size hb2) (Nat.le_trans HB1.out.size hb2.size) hb3)
    have HK3 := Lib.hid (kept_on hb3 (kept_on hb2 HK1.out))
    have HMI := Lib.hid (hmap.below hb3)
    have HW3 := Lib.hid hW3; clear hW3 hbb hmap hb2 hb3 k0 k1 k2 HLD
    have HMIN := Lib.hid (fun W (hb : Below W3.heap.size W3 W) => minFunc_calls' W2.heap.size ps A1 c1 ms hne W (Kd.C_below (Kd.C_below HR1.out HB3.out) hb) (HM3.out.below hb) hmf)
    have HMAX := Lib.hid (fun W (hb : Below W3.heap.size W3 W) => maxFunc_calls' W2.heap.size ps A1 c1 ms hne W (Kd.C_below (Kd.C_below HR1.out HB3.out) hb) (HM3.out.below hb) hmf)
    have HAT := Lib.hid (show balAt ms ps = idx (stillP (balFrom ms ps)) ps 0 from rfl)
    have HTB := Lib.hid (balTo_bound ps ms hmf)
    have HFB := Lib.hid (balFrom_bound ps ms hmf)
    clear hmf hne hpf
    generalize balTo ms ps = tt at *
    generalize balFrom ms ps = ff at *
    generalize balAt ms ps = ix at *
    go_upto_region 5 with (fail)
    rw [HW3.out]
    have hkp : ∀ W W2 : World, (W.cell? ⟨w.heap.size, 1, none⟩ = some (.slice A1 ms.length c1) ∧ Aside0 (Below W3.heap.size W3 W)) → Below W.heap.size W W2 → (W2.cell? ⟨w.heap.size, 1, none⟩ = some (.slice A1 ms.length c1) ∧ Aside0 (Below W3.heap.size W3 W2)) := fun W W2 h hb => ⟨kept_cell hb h.1, ⟨below_then h.2.out h.2.out.size hb⟩⟩
    have hkp2 : ∀ W : World, Aside0 (Below W3.heap.size W3 W) → (W.cell? ⟨w.heap.size, 1, none⟩ = some (.slice A1 ms.length c1) ∧ Aside0 (Below W3.heap.size W3 W)) := fun W h => hkp W3 W ⟨(three_cells HK3.out).2.1, ⟨Below.refl _ _⟩⟩ h.out
    have HKP2 := Lib.hid hkp2; clear hkp2
    have HKP := Lib.hid hkp; clear hkp
    have hfld := field0M
    have hs0 := And.intro (three_cells HK3.out).2.1 (Aside0.mk (Below.refl W3.heap.size W3))
    go_cut [7, 8] (fun v7 v8 W => v7 = .int .i64 tt ∧ ∃ g, v8 = .pointer (some ⟨g, 0, none⟩) ∧ W3.heap.size ≤ g ∧ W.heap[g]? = some (.cells #[.int .i64 ff] 3 (0, 0)) ∧ Aside0 (Below W3.heap.size W3 W))
    case first =>
      go_region_held3 (fun W => W.cell? ⟨w.heap.size, 1, none⟩ = some (.slice A1 ms.length c1) ∧ Aside0 (Below W3.heap.size W3 W))
        (first
          | assumption
          | exact HKP.out _ _ (by assumption) (below_alloc (Below.refl _ _) _)
          | exact HKP.out _ _ (by assumption) (below_drew (Below.refl _ _))
          | exact HKP2.out _ ⟨below_set HS2.2.out (by first | exact Nat.le_refl _ | exact HS1.2.out.size)⟩
          | exact HKP2.out _ ⟨below_set (below_alloc HS2.2.out _) HS2.2.out.size⟩
          | go_keep)
        (first
          | (go_at_call 47; refine (HMIN.out _ ?hbx).mono ?_; (case hbx => exact (by assumption : _ ∧ Aside0 _).2.out); rintro e w2 ⟨ya, rfl, hb1⟩; have HS1 := HKP.out _ _ (by assumption) hb1; (first | (have hn1 := kept_new_d hb1; obtain ⟨n10, n11, n12⟩ := one_cell hn1; (try simp only [World.heap_drew] at n10 n11 n12)) | (have hn1 := kept_new hb1; obtain ⟨n10, n11, n12⟩ := one_cell hn1; (try simp only [World.heap_drew] at n10 n11 n12)) | skip))
          | (go_at_call 48; refine (HMAX.out _ ?hbx).mono ?_; (case hbx => exact (by assumption : _ ∧ Aside0 _).2.out); rintro e w2 ⟨yb, rfl, hb2⟩; have HS2 := HKP.out _ _ (by assumption) hb2; (first | (have hn2 := kept_on hb2 hn1; obtain ⟨n20, n21, n22⟩ := one_cell hn2) | (have hn2 := kept_new hb2; obtain ⟨n20, n21, n22⟩ := one_cell hn2) | skip)))
      · go_wp2
        go_meet
        case rel => exact ⟨rfl, _, rfl, HS2.2.out.size, new_at (by simp) _, ⟨below_alloc HS2.2.out _⟩⟩
      · go_wp2
        go_meet
        case rel => exact ⟨rfl, _, rfl, HS1.2.out.size, by simpa using blk_set hn2 0 (.int .i64 ff), ⟨below_set HS2.2.out HS1.2.out.size⟩⟩
      · go_wp2
        go_meet
        case rel => exact ⟨rfl, _, rfl, Nat.le_refl _, by simpa using blk_set hn2 0 (.int .i64 ff), ⟨below_set HS2.2.out (Nat.le_refl _)⟩⟩
    case rest =>
      obtain ⟨rfl, g, rfl, hgb, hgw, hbw⟩ := hcut
      have HGW := Lib.hid hgw; clear hgw
      have HBW := Lib.hid hbw.out; clear hbw
      have HBC := Lib.hid (below_then HB3.out HB3.out.size HBW.out)
      have HKC := Lib.hid (kept_on HBW.out HK3.out)
      have hf := fun (x : S48) (W : World) (hb : Below wc.heap.size wc W) => bal2_calls x g ff W (kept_cell hb (one_cell HGW.out).1)
      have HIX := Lib.hid (indexFunc48_calls 50 #[.pointer (some ⟨g, 0, none⟩)] (stillP ff) A2 c2 ps wc enter_bal2 (Kd.C_below HR2.out HBC.out) hf)
      rw [← HAT.out] at HIX
      clear hf hs0
      obtain ⟨k0, k1, k2, _, _, _, _⟩ := three_cells HKC.out
      go_wp2_with fail
      refine HIX.out.mono ?_
      rintro e W4 ⟨rfl, hb4⟩
      clear k0 k1 k2
      have HB4 := Lib.hid (below_then HBC.out HBC.out.size hb4)
      have g0 := (one_cell (kept_on hb4 HGW.out)).1
      have m0 := (one_cell (kept_on hb4 (kept_on HBW.out HC3.out))).1
      have hmi := (HMI.out.below HBW.out).below hb4
      have hl1 := hmi.look ff ⟨by have := HFB.out.1; omega, by have := HFB.out.2; omega⟩
      have hl2 := hmi.look tt ⟨by have := HTB.out.1; omega, by have := HTB.out.2; omega⟩
      have hw : IntKind.i64.wrap (loadsC ps ff - loadsC ps tt) = loadsC ps ff - loadsC ps tt := by
        have h1 := loadsC_le ps ff
        have h2 := loadsC_le ps tt
        exact IntWalk.i64_in _ ⟨by omega, by omega⟩
      clear hmi hb4
      generalize loadsC ps ff = fa at *
      generalize loadsC ps tt = fb at *
      by_cases hi : ix < 0
      · have HR := Lib.hid (HXX.out.trans (if_pos hi))
        go_wp2
        exact bodyPost_ret (v := .tuple #[.int .i64 0, .int .i64 0, .bool false]) (results_tmp3 Try.results20 _ _ _) rfl ⟨by rw [HR.out], HB4.out⟩
      have HX2 := Lib.hid (HXX.out.trans (if_neg hi))
      by_cases hd : fa - fb < 2
      · have HR := Lib.hid (HX2.out.trans (if_pos hd))
        go_wp2
        exact bodyPost_ret (v := .tuple #[.int .i64 0, .int .i64 0, .bool false]) (results_tmp3 Try.results20 _ _ _) rfl ⟨by rw [HR.out], HB4.out⟩
      · have HR := Lib.hid (HX2.out.trans (if_neg hd))
        go_wp2
        exact bodyPost_ret (v := .tuple #[.int .i64 ix, .int .i64 tt, .bool true]) (results_tmp3 Try.results20 _ _ _) rfl ⟨by rw [HR.out], HB4.out⟩
end Go.Proofs.Ytdbgpakmbjhmgaa.H
