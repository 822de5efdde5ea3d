/- Parts of the proof, merged: Ca, Cb, Cc, Cd, Ce, Cf, Cg, Ch, Ci, Cj, Ck, Cl, Cm, Cn. -/
import Derived.Test.YtdbgpakmbjhmgaaB
import Derived.Shelf.Abstract
import Derived.Deep.RegionHeld3
import Derived.Deep.DeepCutAuto
/- Control, first part: contracts of the small functions. -/
namespace Go.Proofs.Ytdbgpakmbjhmgaa.H
open Go.RowKit Go.Proofs.YtdbgpakmbjhmgaaW.PrintWords Go.Proofs.YtdbgpakmbjhmgaaW.PrintLast Go.Proofs.YtdbgpakmbjhmgaaW.PrintMore
set_option linter.unusedVariables false
set_option linter.unusedSimpArgs false

theorem ret_bool {a b : Bool} (h : a = b) : Ending.returned (.bool a) = .returned (.bool b) := by rw [h]
theorem ret_int {k : IntKind} {a b : Int} (h : a = b) : Ending.returned (.int k a) = .returned (.int k b) := by rw [h]

def version (b : Int) : Bool := b == 1 || b == 2

set_option maxHeartbeats 400000 in
theorem version_calls (b : Int) (w : World) :
    Calls Try.prog 36 #[.int .i64 b] w fun e w' => e = .returned (.bool (version b)) ∧ w = w' := by
  go_enter Try.func36, Try.ntmps36
  go_wp2
  all_goals (go_ret; refine ⟨?_, rfl⟩; simp_all [version])

def membersGo (level : Int) : List S45 → Int → Bool
  | [], _ => true
  | m :: ms, last => if m.f0 ≤ last ∨ 100 < m.f0 ∨ version m.f1 = false ∨ m.f1 < level then false else membersGo level ms m.f0
def membersOk (l : List S45) (level : Int) : Bool := membersGo level l 0 && (decide (1 ≤ l.length) && decide (l.length ≤ 8))

set_option maxHeartbeats 1000000 in
set_option maxRecDepth 100000 in
theorem members_calls (A : Option Addr) (c : Nat) (l : List S45) (level : Int) (w : World) (hr : Kd.C k45 w A l.length l) :
    Calls Try.prog 37 #[.slice A l.length c, .int .i64 level] w fun e w' => e = .returned (.bool (membersOk l level)) ∧ Below w.heap.size w w' := by
  have hm : l.length ≤ 9223372036854775807 := hr.2.1
  go_enter Try.func37, Try.ntmps37
  go_wp2
  go_loopw [5, 10] (fun v5 v10 W => ∃ (k : Nat) (last : Int), k ≤ l.length ∧ v10 = .int .i64 k ∧ v5 = .int .i64 last ∧ Aside0 (membersGo level l 0 = membersGo level (l.drop k) last) ∧ Aside0 (Below w.heap.size w W)) (fun _ v10 _ => l.length - (intOf v10).toNat)
  case atStart => exact ⟨0, 0, Nat.zero_le _, rfl, rfl, ⟨rfl⟩, ⟨Below.refl _ _⟩⟩
  case round =>
    obtain ⟨k, last, hk, rfl, rfl, HE, HB⟩ := hrel
    by_cases hlt : k < l.length
    · obtain ⟨ad, rfl, h0, h1⟩ := at_T45 hr k (by omega) (by omega)
      rw [Int.toNat_natCast] at h0 h1
      replace h0 := (HB.out.cell (World.block_lt_of_cell? w _ h0)).trans h0
      replace h1 := (HB.out.cell (World.block_lt_of_cell? w _ h1)).trans h1
      have hx : membersGo level (l.drop k) last = if (rd_T45 l k).f0 ≤ last ∨ 100 < (rd_T45 l k).f0 ∨ version (rd_T45 l k).f1 = false ∨ (rd_T45 l k).f1 < level then false else membersGo level (l.drop (k + 1)) (rd_T45 l k).f0 := by
        rw [List.drop_eq_getElem_cons hlt, membersGo]
        simp only [rd_T45, Int.toNat_natCast, List.getD_eq_getElem?_getD, List.getElem?_eq_getElem hlt, Option.getD_some]
      generalize hm0 : rd_T45 l k = m at *
      have HX := Lib.hid (HE.out.trans hx); clear hx
      go_wp2_with (go_at_call 36; refine (version_calls _ _).mono ?_; rintro e W' ⟨rfl, rfl⟩)
      all_goals first
        | (go_ret; refine ⟨?_, (below_alloc HB.out _)⟩; unfold membersOk; rw [HX.out, if_pos (by first | omega | simp_all)]; rfl)
        | (go_roundw; (case rel => exact ⟨k + 1, _, by omega, by go_num, rfl, ⟨by rw [HX.out, if_neg (by first | omega | simp_all)]⟩, ⟨below_alloc HB.out _⟩⟩); (case measure => simp [intOf]; omega))
    · obtain rfl : k = l.length := by omega
      have hz : membersGo level (l.drop l.length) last = true := by rw [List.drop_eq_nil_of_le (by omega)]; rfl
      have HI := Lib.hid (show membersOk l level = (decide (1 ≤ l.length) && decide (l.length ≤ 8)) by unfold membersOk; rw [HE.out.trans hz]; rfl); clear hz HE
      go_wp2
      go_goals
      all_goals (go_ret; exact ⟨ret_bool (by rw [HI.out, Bool.eq_iff_iff]; simp; omega), HB.out⟩)
end Go.Proofs.Ytdbgpakmbjhmgaa.H

/- IndexFunc, ContainsFunc; who is a member. -/
namespace Go.Proofs.Ytdbgpakmbjhmgaa.H
open Go.RowKit Go.Proofs.YtdbgpakmbjhmgaaW.PrintWords Go.Proofs.YtdbgpakmbjhmgaaW.PrintLast Go.Proofs.YtdbgpakmbjhmgaaW.PrintMore
set_option linter.unusedVariables false
set_option linter.unusedSimpArgs false

def idx {α : Type} (p : α → Bool) : List α → Nat → Int
  | [], _ => -1
  | x :: xs, n => if p x then n else idx p xs (n + 1)

theorem idx_any {α : Type} (p : α → Bool) : ∀ (l : List α) (n : Nat), decide (0 ≤ idx p l n) = l.any p
  | [], _ => rfl
  | x :: xs, n => by
    rw [idx, List.any_cons]
    cases h : p x
    · simpa using idx_any p xs (n + 1)
    · simp

set_option maxHeartbeats 1000000 in
set_option maxRecDepth 100000 in
theorem indexFunc45_calls (F : Nat) (caps : Array Value) (p : S45 → Bool) (A : Option Addr) (c : Nat) (l : List S45) (w : World)
    (eg : ∀ args w, (callFunc F args).run Try.prog w = .ok (.enter F args) w) (hr : Kd.C k45 w A l.length l)
    (hf : ∀ (x : S45) (W : World), Below w.heap.size w W → Calls Try.prog F (#[.agg #[.int .i64 x.f0, .int .i64 x.f1]] ++ caps) W fun e w' => e = .returned (.bool (p x)) ∧ Below W.heap.size W w') :
    Calls Try.prog 62 #[.slice A l.length c, .func (.func F) #[] caps] w fun e w' => e = .returned (.int .i64 (idx p l 0)) ∧ Below w.heap.size w w' := by
  have hu := Try.underlying45
  have hm : l.length ≤ 9223372036854775807 := hr.2.1
  go_enter Try.func62, Try.ntmps62
  go_wp2
  go_loopw [5, 8] (fun v5 v8 W => ∃ k : Nat, k ≤ l.length ∧ v8 = .int .i64 k ∧ Aside0 (idx p l 0 = idx p (l.drop k) k) ∧ Aside0 (Below w.heap.size w W)) (fun _ v8 _ => l.length - (intOf v8).toNat)
  case atStart => exact ⟨0, Nat.zero_le _, rfl, ⟨rfl⟩, ⟨Below.refl _ _⟩⟩
  case round =>
    obtain ⟨k, hk, rfl, HE, HB⟩ := hrel
    by_cases hlt : k < l.length
    · obtain ⟨ad, rfl, h0, h1⟩ := at_T45 hr k (by omega) (by omega)
      rw [Int.toNat_natCast] at h0 h1
      replace h0 := (HB.out.cell (World.block_lt_of_cell? w _ h0)).trans h0
      replace h1 := (HB.out.cell (World.block_lt_of_cell? w _ h1)).trans h1
      have hC := hf (rd_T45 l k) _ HB.out
      have HF := Lib.hid hC; clear hC hf
      have hp : (p (rd_T45 l k) = true ∧ idx p (l.drop k) k = k) ∨ (p (rd_T45 l k) = false ∧ idx p (l.drop k) k = idx p (l.drop (k + 1)) (k + 1)) := by
        rw [List.drop_eq_getElem_cons hlt, idx]
        simp only [rd_T45, Int.toNat_natCast, List.getD_eq_getElem?_getD, List.getElem?_eq_getElem hlt, Option.getD_some]
        cases p l[k] <;> simp
      have HP := Lib.hid hp; clear hp
      go_wp2_with fail
      refine HF.out.mono ?_
      rintro e W2 ⟨rfl, hb2⟩
      rcases HP.out with ⟨hq, hi⟩ | ⟨hq, hi⟩
      · have HI := Lib.hid (HE.out.trans hi); clear hi
        rw [hq]
        go_wp2
        go_ret
        exact ⟨ret_int (by rw [HI.out]), below_then HB.out HB.out.size hb2⟩
      · have HI := Lib.hid (HE.out.trans hi); clear hi
        rw [hq]
        go_wp2
        go_roundw
        case rel => exact ⟨k + 1, by omega, by go_num, ⟨HI.out⟩, ⟨below_then HB.out HB.out.size hb2⟩⟩
        case measure => simp [intOf]; omega
    · obtain rfl : k = l.length := by omega
      have hz : idx p (l.drop l.length) l.length = -1 := by rw [List.drop_eq_nil_of_le (by omega)]; rfl
      have HI := Lib.hid (HE.out.trans hz); clear hz
      go_wp2
      go_ret
      exact ⟨ret_int (by rw [HI.out]), HB.out⟩

set_option maxHeartbeats 1000000 in
set_option maxRecDepth 100000 in
theorem indexFunc48_calls (F : Nat) (caps : Array Value) (p : S48 → Bool) (A : Option Addr) (c : Nat) (l : List S48) (w : World)
    (eg : ∀ args w, (callFunc F args).run Try.prog w = .ok (.enter F args) w) (hr : Kd.C k48 w A l.length l)
    (hf : ∀ (x : S48) (W : World), Below w.heap.size w W → Calls Try.prog F (#[.agg #[.int .i64 x.f0, .int .i64 x.f1, .int .i64 x.f2]] ++ caps) W fun e w' => e = .returned (.bool (p x)) ∧ Below W.heap.size W w') :
    Calls Try.prog 49 #[.slice A l.length c, .func (.func F) #[] caps] w fun e w' => e = .returned (.int .i64 (idx p l 0)) ∧ Below w.heap.size w w' := by
  have hu := Try.underlying48
  have hm : l.length ≤ 9223372036854775807 := hr.2.1
  go_enter Try.func49, Try.ntmps49
  go_wp2
  go_loopw [5, 8] (fun v5 v8 W => ∃ k : Nat, k ≤ l.length ∧ v8 = .int .i64 k ∧ Aside0 (idx p l 0 = idx p (l.drop k) k) ∧ Aside0 (Below w.heap.size w W)) (fun _ v8 _ => l.length - (intOf v8).toNat)
  case atStart => exact ⟨0, Nat.zero_le _, rfl, ⟨rfl⟩, ⟨Below.refl _ _⟩⟩
  case round =>
    obtain ⟨k, hk, rfl, HE, HB⟩ := hrel
    by_cases hlt : k < l.length
    · obtain ⟨ad, rfl, h0, h1, h2⟩ := at_T48 hr k (by omega) (by omega)
      rw [Int.toNat_natCast] at h0 h1 h2
      replace h0 := (HB.out.cell (World.block_lt_of_cell? w _ h0)).trans h0
      replace h1 := (HB.out.cell (World.block_lt_of_cell? w _ h1)).trans h1
      replace h2 := (HB.out.cell (World.block_lt_of_cell? w _ h2)).trans h2
      have hC := hf (rd_T48 l k) _ HB.out
      have HF := Lib.hid hC; clear hC hf
      have hp : (p (rd_T48 l k) = true ∧ idx p (l.drop k) k = k) ∨ (p (rd_T48 l k) = false ∧ idx p (l.drop k) k = idx p (l.drop (k + 1)) (k + 1)) := by
        rw [List.drop_eq_getElem_cons hlt, idx]
        simp only [rd_T48, Int.toNat_natCast, List.getD_eq_getElem?_getD, List.getElem?_eq_getElem hlt, Option.getD_some]
        cases p l[k] <;> simp
      have HP := Lib.hid hp; clear hp
      go_wp2_with fail
      refine HF.out.mono ?_
      rintro e W2 ⟨rfl, hb2⟩
      rcases HP.out with ⟨hq, hi⟩ | ⟨hq, hi⟩
      · have HI := Lib.hid (HE.out.trans hi); clear hi
        rw [hq]
        go_wp2
        go_ret
        exact ⟨ret_int (by rw [HI.out]), below_then HB.out HB.out.size hb2⟩
      · have HI := Lib.hid (HE.out.trans hi); clear hi
        rw [hq]
        go_wp2
        go_roundw
        case rel => exact ⟨k + 1, by omega, by go_num, ⟨HI.out⟩, ⟨below_then HB.out HB.out.size hb2⟩⟩
        case measure => simp [intOf]; omega
    · obtain rfl : k = l.length := by omega
      have hz : idx p (l.drop l.length) l.length = -1 := by rw [List.drop_eq_nil_of_le (by omega)]; rfl
      have HI := Lib.hid (HE.out.trans hz); clear hz
      go_wp2
      go_ret
      exact ⟨ret_int (by rw [HI.out]), HB.out⟩

set_option maxHeartbeats 400000 in
theorem containsFunc48_calls (F : Nat) (caps : Array Value) (p : S48 → Bool) (A : Option Addr) (c : Nat) (l : List S48) (w : World)
    (eg : ∀ args w, (callFunc F args).run Try.prog w = .ok (.enter F args) w) (hr : Kd.C k48 w A l.length l)
    (hf : ∀ (x : S48) (W : World), Below w.heap.size w W → Calls Try.prog F (#[.agg #[.int .i64 x.f0, .int .i64 x.f1, .int .i64 x.f2]] ++ caps) W fun e w' => e = .returned (.bool (p x)) ∧ Below W.heap.size W w') :
    Calls Try.prog 38 #[.slice A l.length c, .func (.func F) #[] caps] w fun e w' => e = .returned (.bool (l.any p)) ∧ Below w.heap.size w w' := by
  have HC := Lib.hid (indexFunc48_calls F caps p A c l w eg hr hf); clear eg hr hf
  have hi : decide (0 ≤ idx p l 0) = l.any p := idx_any p l 0
  go_enter Try.func38, Try.ntmps38
  have HI := Lib.hid hi; clear hi
  go_wp2_with fail
  refine HC.out.mono ?_
  rintro e W2 ⟨rfl, hb2⟩
  go_wp2
  go_ret
  exact ⟨ret_bool HI.out, hb2⟩
end Go.Proofs.Ytdbgpakmbjhmgaa.H

/- Whether a controller may be: at, Right. -/
namespace Go.Proofs.Ytdbgpakmbjhmgaa.H
open Go.RowKit Go.Proofs.YtdbgpakmbjhmgaaW.PrintWords Go.Proofs.YtdbgpakmbjhmgaaW.PrintLast Go.Proofs.YtdbgpakmbjhmgaaW.PrintMore
set_option linter.unusedVariables false
set_option linter.unusedSimpArgs false

def named (name : Int) (m : S45) : Bool := m.f0 == name
def hasM (ms : List S45) (name : Int) : Bool := ms.any (named name)

set_option maxHeartbeats 400000 in
theorem at1_calls (x : S45) (name : Int) (B : Nat) (w : World) (hc : w.cell? ⟨B, 0, none⟩ = some (.int .i64 name)) :
    Calls Try.prog 63 #[.agg #[.int .i64 x.f0, .int .i64 x.f1], .pointer (some ⟨B, 0, none⟩)] w fun e w' => e = .returned (.bool (named name x)) ∧ Below w.heap.size w w' := by
  have hB := World.block_lt_of_cell? w _ hc
  go_enter Try.func63, Try.ntmps63
  go_wp2
  go_ret
  exact ⟨rfl, below_alloc (Below.refl _ _) _⟩

theorem enter_at1 : ∀ args w, (callFunc 63 args).run Try.prog w = .ok (.enter 63 args) w := enters_of Try.func63 (by kernel_rfl) rfl

set_option maxHeartbeats 400000 in
theorem at_calls (A : Option Addr) (c : Nat) (l : List S45) (name : Int) (w : World) (hr : Kd.C k45 w A l.length l) :
    Calls Try.prog 35 #[.slice A l.length c, .int .i64 name] w fun e w' => e = .returned (.tuple #[.int .i64 (idx (named name) l 0), .bool (hasM l name)]) ∧ Below w.heap.size w w' := by
  have HB := Lib.hid (below_alloc (Below.refl w.heap.size w) (.cells #[.int .i64 name] 3))
  have HR := Lib.hid (Kd.C_below hr HB.out)
  have HC := Lib.hid (indexFunc45_calls 63 #[.pointer (some ⟨w.heap.size, 0, none⟩)] (named name) A c l (w.alloc (.cells #[.int .i64 name] 3)) enter_at1 HR.out
    (fun x W hb => at1_calls x name w.heap.size W ((hb.cell (p := ⟨w.heap.size, 0, none⟩) (by simp)).trans (by simp))))
  have HD := Lib.hid (show decide (0 ≤ idx (named name) l 0) = hasM l name from idx_any _ l 0)
  clear hr
  go_enter Try.func35, Try.ntmps35
  go_wp2_with fail
  refine HC.out.mono ?_
  rintro e W2 ⟨rfl, hb2⟩
  go_wp2
  go_ret2
  exact ⟨by rw [← HD.out]; rfl, below_then HB.out HB.out.size hb2⟩

def oddP (ms : List S45) (p : S48) : Bool := !hasM ms p.f0 || decide (p.f1 < 1) || decide (9007199254740992 < p.f1) || (!(p.f2 == 0) && (!hasM ms p.f2 || p.f2 == p.f0))
end Go.Proofs.Ytdbgpakmbjhmgaa.H

/- Whether a controller may be: Right. -/
namespace Go.Proofs.Ytdbgpakmbjhmgaa.H
open Go.RowKit Go.Proofs.YtdbgpakmbjhmgaaW.PrintWords Go.Proofs.YtdbgpakmbjhmgaaW.PrintLast Go.Proofs.YtdbgpakmbjhmgaaW.PrintMore
set_option linter.unusedVariables false
set_option linter.unusedSimpArgs false

set_option maxHeartbeats 1000000 in
set_option maxRecDepth 100000 in
theorem right1_calls (p : S48) (B : Nat) (lv : Value) (A1 : Option Addr) (c1 : Nat) (ms : List S45) (v2 : Value) (w : World)
    (h1 : w.cell? ⟨B, 1, none⟩ = some (.slice A1 ms.length c1)) (hr : Kd.C k45 w A1 ms.length ms) :
    Calls Try.prog 34 #[.agg #[.int .i64 p.f0, .int .i64 p.f1, .int .i64 p.f2], .pointer (some ⟨B, 0, none⟩)] w fun e w' => e = .returned (.bool (oddP ms p)) ∧ Below w.heap.size w w' := by
  have HH1 := Lib.hid h1
  have HR := Lib.hid hr; clear hr
  have hlt := World.block_lt_of_cell? w _ h1
  have hb0 := below_alloc (Below.refl w.heap.size w) (.cells #[.int .i64 p.f0, .int .i64 p.f1, .int .i64 p.f2] 48)
  have HB0 := Lib.hid hb0
  have HC1 := Lib.hid (at_calls A1 c1 ms p.f0 (w.alloc (.cells #[.int .i64 p.f0, .int .i64 p.f1, .int .i64 p.f2] 48)) (Kd.C_below HR.out hb0)); clear hb0
  go_enter Try.func34, Try.ntmps34
  go_wp2_with fail
  refine HC1.out.mono ?_
  rintro e W1 ⟨rfl, hb1⟩
  have HB1 := Lib.hid (below_then HB0.out HB0.out.size hb1)
  have k1 := (HB1.out.cell (p := ⟨B, 1, none⟩) hlt).trans HH1.out
  have q0 := hb1.cell (p := ⟨w.heap.size, 0, none⟩) (by simp)
  have q1 := hb1.cell (p := ⟨w.heap.size, 1, none⟩) (by simp)
  have q2 := hb1.cell (p := ⟨w.heap.size, 2, none⟩) (by simp)
  simp at q0 q1 q2
  have HQ0 := Lib.hid q0
  have HQ1 := Lib.hid q1
  have HQ2 := Lib.hid q2
  have HC2 := Lib.hid (at_calls A1 c1 ms p.f2 W1 (Kd.C_below HR.out HB1.out))
  have hz := Lib.hid hb1.size
  clear h1 hb1
  go_wp2_with fail
  refine HC2.out.mono ?_
  rintro e W2 ⟨rfl, hb2⟩
  have hzz : w.heap.size < W1.heap.size := by have := hz.out; simp at this; omega
  have HB2 := Lib.hid (below_then HB1.out HB1.out.size hb2)
  clear k1 q0 q1 q2
  have q0 := (hb2.cell (p := ⟨w.heap.size, 0, none⟩) hzz).trans HQ0.out
  have q1 := (hb2.cell (p := ⟨w.heap.size, 1, none⟩) hzz).trans HQ1.out
  have q2 := (hb2.cell (p := ⟨w.heap.size, 2, none⟩) hzz).trans HQ2.out
  clear hb2 hzz
  have HO := Lib.hid (show oddP ms p = (!hasM ms p.f0 || decide (p.f1 < 1) || decide (9007199254740992 < p.f1) || (!(p.f2 == 0) && (!hasM ms p.f2 || p.f2 == p.f0))) from rfl)
  generalize hasM ms p.f0 = b0 at *
  generalize hasM ms p.f2 = b2 at *
  go_wp2
  all_goals (go_ret; refine ⟨ret_bool ?_, HB2.out⟩; rw [HO.out]; clear HC1 HC2 HO HQ0 HQ1 HQ2 q0 q1 q2 HB0 HB1 HB2 HR HH1 hz; cases b0 <;> cases b2 <;> first | (simp_all; done) | (simp_all; omega) | (rw [Bool.eq_iff_iff]; simp_all; done) | (rw [Bool.eq_iff_iff]; simp_all; omega))
end Go.Proofs.Ytdbgpakmbjhmgaa.H

/- Whether a controller may be: Right. -/
namespace Go.Proofs.Ytdbgpakmbjhmgaa.H
open Go.RowKit Go.Proofs.YtdbgpakmbjhmgaaW.PrintWords Go.Proofs.YtdbgpakmbjhmgaaW.PrintLast Go.Proofs.YtdbgpakmbjhmgaaW.PrintMore
set_option linter.unusedVariables false
set_option linter.unusedSimpArgs false

def rightC (lv : Int) (ms : List S45) (ps : List S48) : Bool :=
  version lv && (membersOk ms lv && (decide (1 ≤ ps.length) && (decide (ps.length ≤ 8) && !ps.any (oddP ms))))

theorem enter_right1 : ∀ args w, (callFunc 34 args).run Try.prog w = .ok (.enter 34 args) w := enters_of Try.func34 (by kernel_rfl) rfl

set_option maxHeartbeats 1000000 in
set_option maxRecDepth 100000 in
theorem right_calls (lv : Int) (A1 : Option Addr) (c1 : Nat) (ms : List S45) (A2 : Option Addr) (c2 : Nat) (ps : List S48) (w : World)
    (hr1 : Kd.C k45 w A1 ms.length ms) (hr2 : Kd.C k48 w A2 ps.length ps) :
    Calls Try.prog 16 #[.agg #[.int .i64 lv, .slice A1 ms.length c1, .slice A2 ps.length c2]] w fun e w' => e = .returned (.bool (rightC lv ms ps)) ∧ Below w.heap.size w w' := by
  have HR1 := Lib.hid hr1; clear hr1
  have HR2 := Lib.hid hr2; clear hr2
  have hm2 : ps.length ≤ 9223372036854775807 := HR2.out.2.1
  generalize hW : w.alloc (.cells #[.int .i64 lv, .slice A1 ms.length c1, .slice A2 ps.length c2] 26) = W
  have HB := Lib.hid (show Below w.heap.size w W by rw [← hW]; exact below_alloc (Below.refl _ _) _)
  have HK0 := Lib.hid (show W.cell? ⟨w.heap.size, 0, none⟩ = some (.int .i64 lv) by rw [← hW]; simp)
  have HK1 := Lib.hid (show W.cell? ⟨w.heap.size, 1, none⟩ = some (.slice A1 ms.length c1) by rw [← hW]; simp)
  have HK2 := Lib.hid (show W.cell? ⟨w.heap.size, 2, none⟩ = some (.slice A2 ps.length c2) by rw [← hW]; simp)
  have hz := Lib.hid (show w.heap.size < W.heap.size by rw [← hW]; simp)
  have HC1 := Lib.hid (members_calls A1 c1 ms lv W (Kd.C_below HR1.out HB.out))
  have HX := Lib.hid (show rightC lv ms ps = (version lv && (membersOk ms lv && (decide (1 ≤ ps.length) && (decide (ps.length ≤ 8) && !ps.any (oddP ms))))) from rfl)
  have HW := Lib.hid hW; clear hW
  go_enter Try.func16, Try.ntmps16
  go_wp2_with fail
  refine (version_calls _ _).mono ?_
  rintro e W' ⟨rfl, rfl⟩
  rw [HW.out]
  cases hv : version lv
  · go_wp2
    go_ret
    exact ⟨ret_bool (by rw [HX.out, hv]; rfl), HB.out⟩
  have HV := Lib.hid hv; clear hv
  have k0 := HK0.out
  have k1 := HK1.out
  go_wp2_with fail
  refine HC1.out.mono ?_
  rintro e W1 ⟨rfl, hb1⟩
  have HB1 := Lib.hid (below_then HB.out HB.out.size hb1)
  cases hv : membersOk ms lv
  · go_wp2
    go_ret
    exact ⟨ret_bool (by rw [HX.out, hv]; simp), HB1.out⟩
  have HV2 := Lib.hid hv; clear hv k0 k1
  have k2 := (hb1.cell (p := ⟨w.heap.size, 2, none⟩) hz.out).trans HK2.out
  have k1 := (hb1.cell (p := ⟨w.heap.size, 1, none⟩) hz.out).trans HK1.out
  have hf := fun (x : S48) (W : World) (hb : Below W1.heap.size W1 W) => right1_calls x w.heap.size (.bool false) A1 c1 ms (.bool false) W ((hb.cell (p := ⟨w.heap.size, 1, none⟩) (Nat.lt_of_lt_of_le hz.out hb1.size)).trans k1) (Kd.C_below (Kd.C_below HR1.out HB1.out) hb)
  have HC3 := Lib.hid (containsFunc48_calls 34 #[.pointer (some ⟨w.heap.size, 0, none⟩)] (oddP ms) A2 c2 ps W1 enter_right1 (Kd.C_below HR2.out HB1.out) hf)
  clear hf hb1
  by_cases h1 : 1 ≤ ps.length
  · by_cases h8 : ps.length ≤ 8
    · go_wp2_with fail
      refine HC3.out.mono ?_
      rintro e W3 ⟨rfl, hb3⟩
      go_wp2
      go_ret
      exact ⟨ret_bool (by rw [HX.out, HV.out, HV2.out]; simp [h1, h8]), below_then HB1.out HB1.out.size hb3⟩
    · go_wp2
      go_ret
      exact ⟨ret_bool (by rw [HX.out]; simp [h8]), HB1.out⟩
  · go_wp2
    go_ret
    exact ⟨ret_bool (by rw [HX.out]; simp [h1]), HB1.out⟩
end Go.Proofs.Ytdbgpakmbjhmgaa.H

/- Clone. -/
namespace Go.Proofs.Ytdbgpakmbjhmgaa.H
open Go.RowKit Go.Proofs.YtdbgpakmbjhmgaaW.PrintWords Go.Proofs.YtdbgpakmbjhmgaaW.PrintLast Go.Proofs.YtdbgpakmbjhmgaaW.PrintMore
set_option linter.unusedVariables false
set_option linter.unusedSimpArgs false

theorem R_empty {α : Type} (d : Kd α) (e : Nat) (W : World) (base : Nat) (hb : base ≤ W.heap.size) :
    d.R e (W.alloc (.cells #[] e)) base (fun _ => True) (.slice (some ⟨W.heap.size, 0, none⟩) 0 0) [] := by
  refine ⟨fun _ _ => trivial, [], ?_, Reps.none _ _⟩
  have h2 := World.ownsRow_lit (base := base) (e := e) (size := d.sz) W #[] 0 hb (by simp [maxLen]) (by simp)
  simpa using h2
theorem C_none {α : Type} {d : Kd α} {w : World} {n : Nat} {l : List α} (h : Kd.C d w none n l) : l = [] := by
  rcases l with _ | ⟨x, l⟩
  · rfl
  · have hn := h.1
    obtain ⟨ad, e, _⟩ := h.2.2 (by rw [← hn]; simp)
    cases e

set_option maxHeartbeats 1000000 in
set_option maxRecDepth 100000 in
theorem clone45_calls (A : Option Addr) (c : Nat) (l : List S45) (w : World) (hr : Kd.C k45 w A l.length l) (hl : l.length * 16 ≤ 140737488355328) :
    Calls Try.prog 64 #[.slice A l.length c] w fun e w' => ∃ v, e = .returned v ∧ Kd.R k45 45 w' w.heap.size (fun _ => True) v l ∧ Below w.heap.size w w' := by
  have HR := Lib.hid hr; clear hr
  have HL := Lib.hid hl; clear hl
  rcases A with _ | ad
  · obtain rfl := C_none HR.out
    have he := fun w => Lib.run_eql_slice_nil (P := Try.prog) w 23 45 none 0 c 0 0 Try.underlying23
    go_enter Try.func64, Try.ntmps64
    go_wp2
    go_ret
    exact ⟨_, rfl, Kd.R_nil _ _ _ _ _, Below.refl _ _⟩
  · have he := fun w => Lib.run_eql_slice_nil (P := Try.prog) w 23 45 (some ad) l.length c 0 0 Try.underlying23
    have HB := Lib.hid (below_alloc (Below.refl w.heap.size w) (.cells #[] 45))
    have HE := Lib.hid (R_empty k45 45 w w.heap.size (Nat.le_refl _))
    have HS := Lib.hid (Kd.C_below HR.out HB.out)
    go_enter Try.func64, Try.ntmps64
    go_wp2_with (at_builtin; refine Kd.R_append_rows k45 (w0 := w) w.heap.size rfl (.tmp 5) (.tmp 6) 23 45 (.agg #[(.int .i64 0), (.int .i64 0)]) 16 rfl Try.underlying23 info45 rfl (by decide) (by omega) (.slice (some ⟨w.heap.size, 0, none⟩) 0 0) [] l _ _ _ (fun _ => True) (fun _ => False) rfl rfl ?aO ?aR (fun _ _ h => h) (fun _ h => h.elim) ?aF ?aB ?aS ?aL ?_; (case aO => exact HE.out); (case aR => exact HS.out); (case aF => exact fun _ _ => trivial); (case aB => exact HB.out); (case aS => simp); (case aL => have := HL.out; simp; omega); intro v w2 ho hb hg hat)
    go_ret
    exact ⟨v, rfl, ho, hb⟩

set_option maxHeartbeats 1000000 in
set_option maxRecDepth 100000 in
theorem clone48_calls (A : Option Addr) (c : Nat) (l : List S48) (w : World) (hr : Kd.C k48 w A l.length l) (hl : l.length * 24 ≤ 140737488355328) :
    Calls Try.prog 65 #[.slice A l.length c] w fun e w' => ∃ v, e = .returned v ∧ Kd.R k48 48 w' w.heap.size (fun _ => True) v l ∧ Below w.heap.size w w' := by
  have HR := Lib.hid hr; clear hr
  have HL := Lib.hid hl; clear hl
  rcases A with _ | ad
  · obtain rfl := C_none HR.out
    have he := fun w => Lib.run_eql_slice_nil (P := Try.prog) w 24 48 none 0 c 0 0 Try.underlying24
    go_enter Try.func65, Try.ntmps65
    go_wp2
    go_ret
    exact ⟨_, rfl, Kd.R_nil _ _ _ _ _, Below.refl _ _⟩
  · have he := fun w => Lib.run_eql_slice_nil (P := Try.prog) w 24 48 (some ad) l.length c 0 0 Try.underlying24
    have HB := Lib.hid (below_alloc (Below.refl w.heap.size w) (.cells #[] 48))
    have HE := Lib.hid (R_empty k48 48 w w.heap.size (Nat.le_refl _))
    have HS := Lib.hid (Kd.C_below HR.out HB.out)
    go_enter Try.func65, Try.ntmps65
    go_wp2_with (at_builtin; refine Kd.R_append_rows k48 (w0 := w) w.heap.size rfl (.tmp 5) (.tmp 6) 24 48 (.agg #[(.int .i64 0), (.int .i64 0), (.int .i64 0)]) 24 rfl Try.underlying24 info48 rfl (by decide) (by omega) (.slice (some ⟨w.heap.size, 0, none⟩) 0 0) [] l _ _ _ (fun _ => True) (fun _ => False) rfl rfl ?aO ?aR (fun _ _ h => h) (fun _ h => h.elim) ?aF ?aB ?aS ?aL ?_; (case aO => exact HE.out); (case aR => exact HS.out); (case aF => exact fun _ _ => trivial); (case aB => exact HB.out); (case aS => simp); (case aL => have := HL.out; simp; omega); intro v w2 ho hb hg hat)
    go_ret
    exact ⟨v, rfl, ho, hb⟩
end Go.Proofs.Ytdbgpakmbjhmgaa.H

/- What is done to a controller: changed. -/
namespace Go.Proofs.Ytdbgpakmbjhmgaa.H
open Go.RowKit Go.Proofs.YtdbgpakmbjhmgaaW.PrintWords Go.Proofs.YtdbgpakmbjhmgaaW.PrintLast Go.Proofs.YtdbgpakmbjhmgaaW.PrintMore
set_option linter.unusedVariables false
set_option linter.unusedSimpArgs false

theorem two_alloc (w : World) (a b : Obj) : ((w.alloc a).alloc b).heap[w.heap.size]? = some a ∧ ((w.alloc a).alloc b).heap[w.heap.size + 1]? = some b ∧ ((w.alloc a).alloc b).heap.size = w.heap.size + 2 := by
  refine ⟨?_, ?_, by simp⟩
  · have h := (below_alloc (Below.refl (w.alloc a).heap.size (w.alloc a)) b).block w.heap.size (by simp)
    rw [h]; exact heap_alloc_new w a
  · have h := heap_alloc_new (w.alloc a) b
    simpa using h
theorem kept_new {W w2 : World} {o : Obj} (hb : Below (W.alloc o).heap.size (W.alloc o) w2) : w2.heap[W.heap.size]? = some o :=
  (hb.block W.heap.size (by simp)).trans (heap_alloc_new W o)
theorem kept_new_d {W w2 : World} {o : Obj} (hb : Below ((W.alloc o).drew).heap.size ((W.alloc o).drew) w2) : w2.heap[W.heap.size]? = some o := kept_new (W := W) (o := o) ⟨hb.os, hb.tape, hb.output, hb.size, hb.block⟩
theorem kept_cell {W w2 : World} {a : Addr} {v : Value} (hb : Below W.heap.size W w2) (h : W.cell? a = some v) : w2.cell? a = some v := (hb.cell (World.block_lt_of_cell? W a h)).trans h
theorem kept_on {W w2 : World} {g : Nat} {o : Obj} (hb : Below W.heap.size W w2) (h : W.heap[g]? = some o) : w2.heap[g]? = some o :=
  (hb.block g (blk_lt h)).trans h
theorem new_at {W : World} {n : Nat} (h : W.heap.size = n) (o : Obj) : (W.alloc o).heap[n]? = some o := by rw [← h]; exact heap_alloc_new W o
theorem alloc_on {W : World} {g : Nat} {o : Obj} (h : W.heap[g]? = some o) (o' : Obj) : (W.alloc o').heap[g]? = some o := kept_on (below_alloc (Below.refl _ _) o') h
/-- A fresh variable of three cells, as a store asks for it. -/
theorem three_cells {w : World} {g : Nat} {a b c : Value} {t : Nat} (h : w.heap[g]? = some (.cells #[a, b, c] t (0, 0))) :
    w.cell? ⟨g, 0, none⟩ = some a ∧ w.cell? ⟨g, 1, none⟩ = some b ∧ w.cell? ⟨g, 2, none⟩ = some c ∧ w.frozen? ⟨g, 0, none⟩ = false ∧ w.frozen? ⟨g, 1, none⟩ = false ∧ w.frozen? ⟨g, 2, none⟩ = false ∧ g < w.heap.size :=
  ⟨(blk_cell h 0).trans rfl, (blk_cell h 1).trans rfl, (blk_cell h 2).trans rfl, blk_frozen h _, blk_frozen h _, blk_frozen h _, blk_lt h⟩
/-- What a closure does to a controller that lies in memory: from a base on all is the call's own. -/
def Does (w0 : World) (F : Nat) (caps : Array Value) (f : Int → List S45 → List S48 → Int × Int × List S45 × List S48) : Prop :=
  ∀ (W : World) (g : Nat) (lv : Int) (v1 v2 : Value) (ms : List S45) (ps : List S48), Below w0.heap.size w0 W → W.heap[g]? = some (.cells #[.int .i64 lv, v1, v2] 26 (0, 0)) → w0.heap.size ≤ g →
    Kd.R k45 45 W w0.heap.size (fun _ => True) v1 ms → Kd.R k48 48 W w0.heap.size (fun _ => True) v2 ps → rightC lv ms ps = true →
    Calls Try.prog F (#[.pointer (some ⟨g, 0, none⟩)] ++ caps) W fun e W' => e = .returned (.int .i64 (f lv ms ps).1) ∧ Below w0.heap.size w0 W' ∧
      ((f lv ms ps).1 = 0 → ∃ u1 u2, W'.heap[g]? = some (.cells #[.int .i64 (f lv ms ps).2.1, u1, u2] 26 (0, 0)) ∧ Kd.R k45 45 W' w0.heap.size (fun _ => True) u1 (f lv ms ps).2.2.1 ∧ Kd.R k48 48 W' w0.heap.size (fun _ => True) u2 (f lv ms ps).2.2.2)

def changedC (f : Int → List S45 → List S48 → Int × Int × List S45 × List S48) (lv : Int) (ms : List S45) (ps : List S48) : Int × Int × List S45 × List S48 :=
  if rightC lv ms ps then (if (f lv ms ps).1 = 0 then f lv ms ps else ((f lv ms ps).1, lv, ms, ps)) else (1, lv, ms, ps)

/-- A controller in a variable of its own, from base b on. -/
def IsC (b : Nat) (v : Value) (lv : Int) (ms : List S45) (ps : List S48) (W : World) : Prop :=
  ∃ (g : Nat) (v1 v2 : Value), v = .pointer (some ⟨g, 0, none⟩) ∧ W.heap[g]? = some (.cells #[.int .i64 lv, v1, v2] 26 (0, 0)) ∧ b ≤ g ∧
    Kd.R k45 45 W b (fun _ => True) v1 ms ∧ Kd.R k48 48 W b (fun _ => True) v2 ps

theorem isC_alloc {b b1 b2 : Nat} {W : World} {lv : Int} {s1 s2 : Value} {ms : List S45} {ps : List S48} (hb : b ≤ W.heap.size) (h1 : Kd.R k45 45 W b1 (fun _ => True) s1 ms) (hb1 : b ≤ b1) (h2 : Kd.R k48 48 W b2 (fun _ => True) s2 ps) (hb2 : b ≤ b2) :
    IsC b (.pointer (some ⟨W.heap.size, 0, none⟩)) lv ms ps (W.alloc (.cells #[.int .i64 lv, s1, s2] 26)) :=
  ⟨_, _, _, rfl, heap_alloc_new W _, hb, Kd.R_below (Kd.R_lower h1 hb1) (below_alloc (Below.refl _ _) _), Kd.R_below (Kd.R_lower h2 hb2) (below_alloc (Below.refl _ _) _)⟩
theorem isC_set {b b1 b2 g : Nat} {W : World} {lv : Int} {s1 s2 x0 x1 x2 : Value} {ms : List S45} {ps : List S48} (hg : W.heap[g]? = some (.cells #[x0, x1, x2] 26 (0, 0))) (hb : b ≤ g) (h1 : Kd.R k45 45 W b1 (fun _ => True) s1 ms) (hb1 : b ≤ b1) (h2 : Kd.R k48 48 W b2 (fun _ => True) s2 ps) (hb2 : b ≤ b2) :
    IsC b (.pointer (some ⟨g, 0, none⟩)) lv ms ps (((W.setCell ⟨g, 0, none⟩ (.int .i64 lv)).setCell ⟨g, 1, none⟩ s1).setCell ⟨g, 2, none⟩ s2) := by
  have g1 := blk_set hg 0 (.int .i64 lv)
  have g2 := blk_set g1 1 s1
  have g3 := blk_set g2 2 s2
  refine ⟨_, _, _, rfl, by simpa using g3, hb, ?_, ?_⟩
  · exact Kd.R_set (Kd.R_set (Kd.R_set (Kd.R_lower h1 hb1) hg (by decide) 0 _) g1 (by decide) 1 _) g2 (by decide) 2 _
  · exact Kd.R_set (Kd.R_set (Kd.R_set (Kd.R_lower h2 hb2) hg (by decide) 0 _) g1 (by decide) 1 _) g2 (by decide) 2 _

theorem ret_C {fn : Func} {a : Act} {W : World} {g p q : Nat} {lv : Int} {s1 s2 v : Value} {R : Ending → World → Prop} (hres : fn.results = #[.cell p 26, .tmp q]) (hp : a.tmps.getD p undef = .pointer (some ⟨g, 0, none⟩)) (hq : a.tmps.getD q undef = v) (hd : a.defers = [])
    (hg : W.heap[g]? = some (.cells #[.int .i64 lv, s1, s2] 26 (0, 0))) (hR : R (.returned (.tuple #[.agg #[.int .i64 lv, s1, s2], v])) W) : bodyPost Try.prog fn R .ret a W := by
  refine bodyPost_ret (v := .tuple #[.agg #[.int .i64 lv, s1, s2], v]) ?_ hd hR
  have h := results_list (P := Try.prog) (fn := fn) (tmps := a.tmps) (w := W) (rs := [.cell p 26, .tmp q]) (vs := [.agg #[.int .i64 lv, s1, s2], v]) hres (by simp)
    (.cell g 26 _ (0, 0) _ hp hg Try.underlying26 rfl (by kernel_rfl) (hq ▸ .tmp .nil))
  simpa using h

set_option maxHeartbeats 2000000 in
set_option maxRecDepth 100000 in
theorem changed_calls (F : Nat) (caps : Array Value) (f : Int → List S45 → List S48 → Int × Int × List S45 × List S48) (lv : Int) (A1 : Option Addr) (c1 : Nat) (ms : List S45) (A2 : Option Addr) (c2 : Nat) (ps : List S48) (w : World)
    (eg : ∀ args w, (callFunc F args).run Try.prog w = .ok (.enter F args) w) (hr1 : Kd.C k45 w A1 ms.length ms) (hr2 : Kd.C k48 w A2 ps.length ps) (hl1 : ms.length * 16 ≤ 140737488355328) (hl2 : ps.length * 24 ≤ 140737488355328)
    (hdo : ∀ w0, Below w.heap.size w w0 → Does w0 F caps f) :
    Calls Try.prog 41 #[.agg #[.int .i64 lv, .slice A1 ms.length c1, .slice A2 ps.length c2], .func (.func F) #[] caps] w fun e w' =>
      ∃ v1 v2, e = .returned (.tuple #[.agg #[.int .i64 (changedC f lv ms ps).2.1, v1, v2], .int .i64 (changedC f lv ms ps).1]) ∧ Kd.R k45 45 w' w.heap.size (fun _ => True) v1 (changedC f lv ms ps).2.2.1 ∧ Kd.R k48 48 w' w.heap.size (fun _ => True) v2 (changedC f lv ms ps).2.2.2 ∧ Below w.heap.size w w' := by
  have HR1 := Lib.hid hr1; clear hr1
  have HR2 := Lib.hid hr2; clear hr2
  have HL1 := Lib.hid hl1; clear hl1
  have HL2 := Lib.hid hl2; clear hl2
  have HD := Lib.hid hdo; clear hdo
  generalize hW0 : (w.alloc (.cells #[.int .i64 lv, .slice A1 ms.length c1, .slice A2 ps.length c2] 26)).alloc (.cells #[.int .i64 0, .slice none 0 0, .slice none 0 0] 26) = W0
  have HB0 := Lib.hid (show Below w.heap.size w W0 by rw [← hW0]; exact below_alloc (below_alloc (Below.refl w.heap.size w) _) _)
  have KK := Lib.hid (show W0.cell? ⟨w.heap.size, 0, none⟩ = some (.int .i64 lv) ∧ W0.cell? ⟨w.heap.size, 1, none⟩ = some (.slice A1 ms.length c1) ∧ W0.cell? ⟨w.heap.size, 2, none⟩ = some (.slice A2 ps.length c2) ∧ W0.heap[w.heap.size + 1]? = some (.cells #[.int .i64 0, .slice none 0 0, .slice none 0 0] 26 (0, 0)) ∧ W0.heap.size = w.heap.size + 2 by rw [← hW0]; obtain ⟨a, b, c⟩ := two_alloc w (.cells #[.int .i64 lv, .slice A1 ms.length c1, .slice A2 ps.length c2] 26) (.cells #[.int .i64 0, .slice none 0 0, .slice none 0 0] 26); exact ⟨(blk_cell a 0).trans rfl, (blk_cell a 1).trans rfl, (blk_cell a 2).trans rfl, b, c⟩)
  have hkeep : ∀ W W2 : World, (W.cell? ⟨w.heap.size, 0, none⟩ = some (.int .i64 lv) ∧ W.cell? ⟨w.heap.size, 1, none⟩ = some (.slice A1 ms.length c1) ∧ W.cell? ⟨w.heap.size, 2, none⟩ = some (.slice A2 ps.length c2) ∧ Aside0 (Below W0.heap.size W0 W)) → Below W.heap.size W W2 → W2.cell? ⟨w.heap.size, 0, none⟩ = some (.int .i64 lv) ∧ W2.cell? ⟨w.heap.size, 1, none⟩ = some (.slice A1 ms.length c1) ∧ W2.cell? ⟨w.heap.size, 2, none⟩ = some (.slice A2 ps.length c2) ∧ Aside0 (Below W0.heap.size W0 W2) := by
    intro W W2 ⟨_, _, _, h⟩ h2
    have hb := below_then h.out h.out.size h2
    obtain ⟨k0, k1, k2, _, hs⟩ := KK.out
    have hlt : w.heap.size < W0.heap.size := by omega
    exact ⟨(hb.cell (p := ⟨w.heap.size, 0, none⟩) hlt).trans k0, (hb.cell (p := ⟨w.heap.size, 1, none⟩) hlt).trans k1, (hb.cell (p := ⟨w.heap.size, 2, none⟩) hlt).trans k2, ⟨hb⟩⟩
  have hkeep2 : ∀ W : World, Aside0 (Below W0.heap.size W0 W) → W.cell? ⟨w.heap.size, 0, none⟩ = some (.int .i64 lv) ∧ W.cell? ⟨w.heap.size, 1, none⟩ = some (.slice A1 ms.length c1) ∧ W.cell? ⟨w.heap.size, 2, none⟩ = some (.slice A2 ps.length c2) ∧ Aside0 (Below W0.heap.size W0 W) := by
    intro W h
    obtain ⟨k0, k1, k2, _, hs⟩ := KK.out
    exact hkeep W0 W ⟨k0, k1, k2, ⟨Below.refl _ _⟩⟩ h.out
  have HKP2 := Lib.hid hkeep2; clear hkeep2
  have HKP := Lib.hid hkeep; clear hkeep
  have hkc : ∀ W : World, (W.cell? ⟨w.heap.size, 0, none⟩ = some (.int .i64 lv) ∧ W.cell? ⟨w.heap.size, 1, none⟩ = some (.slice A1 ms.length c1) ∧ W.cell? ⟨w.heap.size, 2, none⟩ = some (.slice A2 ps.length c2) ∧ Aside0 (Below W0.heap.size W0 W)) → Kd.C k45 W A1 ms.length ms ∧ Kd.C k48 W A2 ps.length ps := by
    intro W ⟨_, _, _, h⟩
    have hb := below_then HB0.out HB0.out.size h.out
    exact ⟨Kd.C_below HR1.out hb, Kd.C_below HR2.out hb⟩
  have HKC := Lib.hid hkc; clear hkc
  have HW0 := Lib.hid hW0; clear hW0
  go_enter Try.func41, Try.ntmps41
  go_upto_region 1 with (fail)
  rw [HW0.out]
  go_cut [6] (fun v6 W => IsC w.heap.size v6 lv ms ps W ∧ Aside0 (Below W0.heap.size W0 W))
  case first =>
    have k0 := KK.out.1
    have k1 := KK.out.2.1
    have k2 := KK.out.2.2.1
    have hb00 := And.intro k0 (And.intro k1 (And.intro k2 (Aside0.mk (Below.refl W0.heap.size W0))))
    go_region_held3 (fun W => W.cell? ⟨w.heap.size, 0, none⟩ = some (.int .i64 lv) ∧ W.cell? ⟨w.heap.size, 1, none⟩ = some (.slice A1 ms.length c1) ∧ W.cell? ⟨w.heap.size, 2, none⟩ = some (.slice A2 ps.length c2) ∧ Aside0 (Below W0.heap.size W0 W))
      (first
        | assumption
        | exact HKP.out _ _ (by assumption) (below_alloc (Below.refl _ _) _)
        | exact HKP.out _ _ (by assumption) (below_drew (Below.refl _ _))
        | exact HKP2.out _ ⟨below_set (below_set (below_set (And.right (And.right (And.right HS2))).out (by first | exact Nat.le_refl _ | exact HS1.2.2.2.out.size)) (by first | exact Nat.le_refl _ | exact HS1.2.2.2.out.size)) (by first | exact Nat.le_refl _ | exact HS1.2.2.2.out.size)⟩
        | go_keep)
      (first
        | (go_at_call 64; refine (clone45_calls A1 c1 ms _ ?_ HL1.out).mono ?_; exact (HKC.out _ (by assumption)).1; rintro e w2 ⟨v1, rfl, ho1, hb1⟩; obtain ⟨A3, c3, rfl⟩ := Kd.R_slice ho1; have HS1 := HKP.out _ _ (by assumption) hb1; (first | (have hn1 := kept_new_d hb1; obtain ⟨n10, n11, n12, n13, n14, n15, n16⟩ := three_cells hn1; (try simp only [World.heap_drew] at n10 n11 n12 n13 n14 n15 n16)) | (have hn1 := kept_new hb1; obtain ⟨n10, n11, n12, n13, n14, n15, n16⟩ := three_cells hn1; (try simp only [World.heap_drew] at n10 n11 n12 n13 n14 n15 n16)) | skip))
        | (go_at_call 65; refine (clone48_calls A2 c2 ps _ ?_ HL2.out).mono ?_; exact (HKC.out _ (by assumption)).2; rintro e w2 ⟨v2, rfl, ho2, hb2⟩; obtain ⟨A4, c4, rfl⟩ := Kd.R_slice ho2; have HS2 := HKP.out _ _ (by assumption) hb2; (first | (have hn2 := kept_on hb2 hn1; obtain ⟨n20, n21, n22, n23, n24, n25, n26⟩ := three_cells hn2) | (have hn2 := kept_new hb2; obtain ⟨n20, n21, n22, n23, n24, n25, n26⟩ := three_cells hn2) | skip)))
    · go_wp2
      go_meet
      case rel =>
        have z1 := hb1.size
        have z2 := hb2.size
        exact ⟨isC_alloc (Nat.le_trans HB0.out.size (Nat.le_trans z1 z2)) (Kd.R_below ho1 hb2) HB0.out.size ho2 (Nat.le_trans HB0.out.size z1), ⟨below_alloc HS2.2.2.2.out _⟩⟩
    · go_wp2
      go_meet
      case rel =>
        have z1 := hb1.size
        have z2 := hb2.size
        have z3 : W0.heap.size ≤ w2.heap.size := HS2.2.2.2.out.size
        exact ⟨isC_set hn2 (Nat.le_trans HB0.out.size z1) (Kd.R_below (Kd.R_below ho1 (below_alloc (Below.refl _ _) _)) hb2) HB0.out.size ho2 (Nat.le_trans HB0.out.size (Nat.le_trans z1 (by simp))), ⟨below_set (below_set (below_set HS2.2.2.2.out z1) z1) z1⟩⟩
    · go_wp2
      go_meet
      case rel =>
        have z1 := hb1.size
        have z2 := hb2.size
        exact ⟨isC_set hn2 HB0.out.size (Kd.R_below ho1 hb2) (Nat.le_trans HB0.out.size (by simp)) ho2 (Nat.le_trans HB0.out.size (Nat.le_trans (by simp) z1)), ⟨below_set (below_set (below_set HS2.2.2.2.out (Nat.le_refl _)) (Nat.le_refl _)) (Nat.le_refl _)⟩⟩
  case rest =>
    obtain ⟨⟨gw, x1, x2, rfl, hgw, hgb, ho1, ho2⟩, hbw⟩ := hcut
    obtain ⟨A3, c3, rfl⟩ := Kd.R_slice ho1
    obtain ⟨A4, c4, rfl⟩ := Kd.R_slice ho2
    have HBC := Lib.hid (below_then HB0.out HB0.out.size hbw.out)
    have hz := Lib.hid (show w.heap.size < wc.heap.size by have := hbw.out.size; have := KK.out.2.2.2.2; omega)
    have hz0 := Lib.hid (show w.heap.size < W0.heap.size by have := KK.out.2.2.2.2; omega)
    have HKW := Lib.hid (show wc.cell? ⟨w.heap.size, 0, none⟩ = some (.int .i64 lv) ∧ wc.cell? ⟨w.heap.size, 1, none⟩ = some (.slice A1 ms.length c1) ∧ wc.cell? ⟨w.heap.size, 2, none⟩ = some (.slice A2 ps.length c2) from
      ⟨(hbw.out.cell (p := ⟨w.heap.size, 0, none⟩) hz0.out).trans KK.out.1, (hbw.out.cell (p := ⟨w.heap.size, 1, none⟩) hz0.out).trans KK.out.2.1, (hbw.out.cell (p := ⟨w.heap.size, 2, none⟩) hz0.out).trans KK.out.2.2.1⟩)
    have HZ := Lib.hid (kept_on hbw.out KK.out.2.2.2.1)
    have HCR := Lib.hid (right_calls lv A1 c1 ms A2 c2 ps wc (Kd.C_below HR1.out HBC.out) (Kd.C_below HR2.out HBC.out))
    have HGW := Lib.hid hgw; clear hgw
    have k0 := HKW.out.1
    have k1 := HKW.out.2.1
    have k2 := HKW.out.2.2
    go_wp2_with fail
    refine HCR.out.mono ?_
    rintro e W1 ⟨rfl, hb1⟩
    have HB1 := Lib.hid (below_then HBC.out HBC.out.size hb1)
    have HG1 := Lib.hid (kept_on hb1 HGW.out)
    have HZ1 := Lib.hid (kept_on hb1 HZ.out)
    have HO1 := Lib.hid (Kd.R_below ho1 hb1)
    have HO2 := Lib.hid (Kd.R_below ho2 hb1)
    have HK1 := Lib.hid (show W1.cell? ⟨w.heap.size, 0, none⟩ = some (.int .i64 lv) ∧ W1.cell? ⟨w.heap.size, 1, none⟩ = some (.slice A1 ms.length c1) ∧ W1.cell? ⟨w.heap.size, 2, none⟩ = some (.slice A2 ps.length c2) from
      ⟨(hb1.cell (p := ⟨w.heap.size, 0, none⟩) hz.out).trans HKW.out.1, (hb1.cell (p := ⟨w.heap.size, 1, none⟩) hz.out).trans HKW.out.2.1, (hb1.cell (p := ⟨w.heap.size, 2, none⟩) hz.out).trans HKW.out.2.2⟩)
    have hz1 := Lib.hid (show w.heap.size < W1.heap.size from Nat.lt_of_lt_of_le hz.out hb1.size)
    clear k0 k1 k2 ho1 ho2 hb1
    cases hrt : rightC lv ms ps
    · have HF := Lib.hid (show changedC f lv ms ps = (1, lv, ms, ps) by simp [changedC, hrt])
      obtain ⟨g0, g1, g2, _, _, _, _⟩ := three_cells HG1.out
      obtain ⟨q0, q1, q2, q3, q4, q5, q6⟩ := three_cells HZ1.out
      go_wp2
      have e1 := blk_set HZ1.out 0 (.int .i64 lv)
      have e2 := blk_set e1 1 (.slice A3 ms.length c3)
      have e3 := blk_set e2 2 (.slice A4 ps.length c4)
      refine ret_C (g := w.heap.size + 1) (lv := lv) (s1 := .slice A3 ms.length c3) (s2 := .slice A4 ps.length c4) (v := .int .i64 1) Try.results41 rfl rfl rfl (by simpa using e3) ?_
      refine ⟨_, _, by rw [HF.out], ?_, ?_, ?_⟩
      · rw [HF.out]; exact Kd.R_set (Kd.R_set (Kd.R_set HO1.out HZ1.out (by decide) 0 _) e1 (by decide) 1 _) e2 (by decide) 2 _
      · rw [HF.out]; exact Kd.R_set (Kd.R_set (Kd.R_set HO2.out HZ1.out (by decide) 0 _) e1 (by decide) 1 _) e2 (by decide) 2 _
      · exact below_set (below_set (below_set HB1.out (by simp)) (by simp)) (by simp)
    · have hkeep : ∀ W W2 : World, (W.cell? ⟨w.heap.size, 0, none⟩ = some (.int .i64 lv) ∧ W.cell? ⟨w.heap.size, 1, none⟩ = some (.slice A1 ms.length c1) ∧ W.cell? ⟨w.heap.size, 2, none⟩ = some (.slice A2 ps.length c2) ∧ Aside0 (Below W1.heap.size W1 W)) → Below W.heap.size W W2 → (W2.cell? ⟨w.heap.size, 0, none⟩ = some (.int .i64 lv) ∧ W2.cell? ⟨w.heap.size, 1, none⟩ = some (.slice A1 ms.length c1) ∧ W2.cell? ⟨w.heap.size, 2, none⟩ = some (.slice A2 ps.length c2) ∧ Aside0 (Below W1.heap.size W1 W2)) := by
        intro W W2 ⟨_, _, _, h⟩ h2
        have hb := below_then h.out h.out.size h2
        exact ⟨(hb.cell (p := ⟨w.heap.size, 0, none⟩) hz1.out).trans HK1.out.1, (hb.cell (p := ⟨w.heap.size, 1, none⟩) hz1.out).trans HK1.out.2.1, (hb.cell (p := ⟨w.heap.size, 2, none⟩) hz1.out).trans HK1.out.2.2, ⟨hb⟩⟩
      have hkeep2 : ∀ W : World, Aside0 (Below W1.heap.size W1 W) → (W.cell? ⟨w.heap.size, 0, none⟩ = some (.int .i64 lv) ∧ W.cell? ⟨w.heap.size, 1, none⟩ = some (.slice A1 ms.length c1) ∧ W.cell? ⟨w.heap.size, 2, none⟩ = some (.slice A2 ps.length c2) ∧ Aside0 (Below W1.heap.size W1 W)) := fun W h => hkeep W1 W ⟨HK1.out.1, HK1.out.2.1, HK1.out.2.2, ⟨Below.refl _ _⟩⟩ h.out
      have hkc : ∀ W : World, (W.cell? ⟨w.heap.size, 0, none⟩ = some (.int .i64 lv) ∧ W.cell? ⟨w.heap.size, 1, none⟩ = some (.slice A1 ms.length c1) ∧ W.cell? ⟨w.heap.size, 2, none⟩ = some (.slice A2 ps.length c2) ∧ Aside0 (Below W1.heap.size W1 W)) → Kd.C k45 W A1 ms.length ms ∧ Kd.C k48 W A2 ps.length ps := by
        intro W ⟨_, _, _, h⟩
        have hb := below_then HB1.out HB1.out.size h.out
        exact ⟨Kd.C_below HR1.out hb, Kd.C_below HR2.out hb⟩
      have HKQ := Lib.hid hkeep; clear hkeep
      have HKQ2 := Lib.hid hkeep2; clear hkeep2
      have HKD := Lib.hid hkc; clear hkc
      have HRT := Lib.hid hrt; clear hrt
      go_upto_region 4 with (fail)
      go_cut [7] (fun v7 W => IsC W1.heap.size v7 lv ms ps W ∧ Aside0 (Below W1.heap.size W1 W))
      case first =>
        have k0 := HK1.out.1
        have k1 := HK1.out.2.1
        have k2 := HK1.out.2.2
        have hb00 := And.intro k0 (And.intro k1 (And.intro k2 (Aside0.mk (Below.refl W1.heap.size W1))))
        go_region_held3 (fun W => W.cell? ⟨w.heap.size, 0, none⟩ = some (.int .i64 lv) ∧ W.cell? ⟨w.heap.size, 1, none⟩ = some (.slice A1 ms.length c1) ∧ W.cell? ⟨w.heap.size, 2, none⟩ = some (.slice A2 ps.length c2) ∧ Aside0 (Below W1.heap.size W1 W))
          (first
            | assumption
            | exact HKQ.out _ _ (by assumption) (below_alloc (Below.refl _ _) _)
            | exact HKQ.out _ _ (by assumption) (below_drew (Below.refl _ _))
            | exact HKQ2.out _ ⟨below_set (below_set (below_set (And.right (And.right (And.right HS2))).out (by first | exact Nat.le_refl _ | exact HS1.2.2.2.out.size)) (by first | exact Nat.le_refl _ | exact HS1.2.2.2.out.size)) (by first | exact Nat.le_refl _ | exact HS1.2.2.2.out.size)⟩
            | go_keep)
          (first
            | (go_at_call 64; refine (clone45_calls A1 c1 ms _ ?_ HL1.out).mono ?_; exact (HKD.out _ (by assumption)).1; rintro e w2 ⟨v1, rfl, ho1, hb1⟩; obtain ⟨A3, c3, rfl⟩ := Kd.R_slice ho1; have HS1 := HKQ.out _ _ (by assumption) hb1; (first | (have hn1 := kept_new_d hb1; obtain ⟨n10, n11, n12, n13, n14, n15, n16⟩ := three_cells hn1; (try simp only [World.heap_drew] at n10 n11 n12 n13 n14 n15 n16)) | (have hn1 := kept_new hb1; obtain ⟨n10, n11, n12, n13, n14, n15, n16⟩ := three_cells hn1; (try simp only [World.heap_drew] at n10 n11 n12 n13 n14 n15 n16)) | skip))
            | (go_at_call 65; refine (clone48_calls A2 c2 ps _ ?_ HL2.out).mono ?_; exact (HKD.out _ (by assumption)).2; rintro e w2 ⟨v2, rfl, ho2, hb2⟩; obtain ⟨A4, c4, rfl⟩ := Kd.R_slice ho2; have HS2 := HKQ.out _ _ (by assumption) hb2; (first | (have hn2 := kept_on hb2 hn1; obtain ⟨n20, n21, n22, n23, n24, n25, n26⟩ := three_cells hn2) | (have hn2 := kept_new hb2; obtain ⟨n20, n21, n22, n23, n24, n25, n26⟩ := three_cells hn2) | skip)))
        · go_wp2
          go_meet
          case rel =>
            have z1 := hb1.size
            have z2 := hb2.size
            exact ⟨isC_alloc (Nat.le_trans z1 z2) (Kd.R_below ho1 hb2) (Nat.le_refl _) ho2 z1, ⟨below_alloc HS2.2.2.2.out _⟩⟩
        · go_wp2
          go_meet
          case rel =>
            have z1 := hb1.size
            have z2 := hb2.size
            exact ⟨isC_set hn2 z1 (Kd.R_below (Kd.R_below ho1 (below_alloc (Below.refl _ _) _)) hb2) (Nat.le_refl _) ho2 (Nat.le_trans z1 (by simp)), ⟨below_set (below_set (below_set HS2.2.2.2.out z1) z1) z1⟩⟩
        · go_wp2
          go_meet
          case rel =>
            have z1 := hb1.size
            have z2 := hb2.size
            exact ⟨isC_set hn2 (Nat.le_refl _) (Kd.R_below ho1 hb2) (by simp) ho2 (Nat.le_trans (by simp) z1), ⟨below_set (below_set (below_set HS2.2.2.2.out (Nat.le_refl _)) (Nat.le_refl _)) (Nat.le_refl _)⟩⟩
      case rest =>
        obtain ⟨⟨gn, x1, x2, rfl, hgn, hgb2, ho1, ho2⟩, hbn⟩ := hcut
        have HCL := Lib.hid (HD.out W1 HB1.out wc gn lv x1 x2 ms ps hbn.out hgn hgb2 ho1 ho2 HRT.out)
        have HBN := Lib.hid hbn.out
        have hdd := Lib.hid (show (f lv ms ps).1 = 0 → changedC f lv ms ps = f lv ms ps by intro h; simp [changedC, HRT.out, h])
        have hdn := Lib.hid (show ¬ (f lv ms ps).1 = 0 → changedC f lv ms ps = ((f lv ms ps).1, lv, ms, ps) by intro h; simp [changedC, HRT.out, h])
        clear hgn ho1 ho2 hbn
        go_wp2_with fail
        refine HCL.out.mono ?_
        rintro e W2 ⟨rfl, hb2, hpost⟩
        have HP := Lib.hid hpost; clear hpost
        have HB2 := Lib.hid hb2; clear hb2
        have HZ2 := Lib.hid ((HB2.out.block _ (blk_lt HZ1.out)).trans HZ1.out)
        by_cases hc : (f lv ms ps).1 = 0
        · obtain ⟨u1, u2, hgn, ho1, ho2⟩ := HP.out hc
          obtain ⟨A5, c5, rfl⟩ := Kd.R_slice ho1
          obtain ⟨A6, c6, rfl⟩ := Kd.R_slice ho2
          have HF := Lib.hid (hdd.out hc)
          have HO5 := Lib.hid ho1; clear ho1
          have HO6 := Lib.hid ho2; clear ho2
          rw [hc]
          have hc1 := Lib.hid hc; clear hc
          obtain ⟨g0, g1, g2, _, _, _, _⟩ := three_cells hgn
          clear hgn
          obtain ⟨q0, q1, q2, q3, q4, q5, q6⟩ := three_cells HZ2.out
          generalize hmm : (f lv ms ps).2.2.1 = ms' at *
          generalize hpp : (f lv ms ps).2.2.2 = ps' at *
          generalize hll : (f lv ms ps).2.1 = lv' at *
          have HM := Lib.hid hmm; clear hmm
          have HPP := Lib.hid hpp; clear hpp
          have HLL := Lib.hid hll; clear hll
          go_wp2
          have e1 := blk_set HZ2.out 0 (.int .i64 lv')
          have e2 := blk_set e1 1 (.slice A5 ms'.length c5)
          have e3 := blk_set e2 2 (.slice A6 ps'.length c6)
          refine ret_C (g := w.heap.size + 1) (lv := lv') (s1 := .slice A5 ms'.length c5) (s2 := .slice A6 ps'.length c6) (v := .int .i64 0) Try.results41 rfl rfl rfl (by simpa using e3) ?_
          refine ⟨_, _, by rw [HF.out, HLL.out, hc1.out], ?_, ?_, ?_⟩
          · rw [HF.out, HM.out]; exact Kd.R_set (Kd.R_set (Kd.R_set (Kd.R_lower HO5.out HB1.out.size) HZ2.out (by decide) 0 _) e1 (by decide) 1 _) e2 (by decide) 2 _
          · rw [HF.out, HPP.out]; exact Kd.R_set (Kd.R_set (Kd.R_set (Kd.R_lower HO6.out HB1.out.size) HZ2.out (by decide) 0 _) e1 (by decide) 1 _) e2 (by decide) 2 _
          · exact below_set (below_set (below_set (below_then HB1.out HB1.out.size HB2.out) (by simp)) (by simp)) (by simp)
        · have HF := Lib.hid (hdn.out hc)
          have HG2 := Lib.hid ((HB2.out.block _ (blk_lt HG1.out)).trans HG1.out)
          have HO5 := Lib.hid (Kd.R_below HO1.out HB2.out)
          have HO6 := Lib.hid (Kd.R_below HO2.out HB2.out)
          obtain ⟨g0, g1, g2, _, _, _, _⟩ := three_cells HG2.out
          obtain ⟨q0, q1, q2, q3, q4, q5, q6⟩ := three_cells HZ2.out
          generalize hee : (f lv ms ps).1 = ee at *
          have HEE := Lib.hid hee; clear hee
          have hc2 : (ee == 0) = false := by simpa using hc
          have hc3 : (ee != 0) = true := by simpa using hc
          clear hc
          go_wp2
          have e1 := blk_set HZ2.out 0 (.int .i64 lv)
          have e2 := blk_set e1 1 (.slice A3 ms.length c3)
          have e3 := blk_set e2 2 (.slice A4 ps.length c4)
          refine ret_C (g := w.heap.size + 1) (lv := lv) (s1 := .slice A3 ms.length c3) (s2 := .slice A4 ps.length c4) (v := .int .i64 ee) Try.results41 rfl rfl rfl (by simpa using e3) ?_
          refine ⟨_, _, by rw [HF.out], ?_, ?_, ?_⟩
          · rw [HF.out]; exact Kd.R_set (Kd.R_set (Kd.R_set HO5.out HZ2.out (by decide) 0 _) e1 (by decide) 1 _) e2 (by decide) 2 _
          · rw [HF.out]; exact Kd.R_set (Kd.R_set (Kd.R_set HO6.out HZ2.out (by decide) 0 _) e1 (by decide) 1 _) e2 (by decide) 2 _
          · exact below_set (below_set (below_set (below_then HB1.out HB1.out.size HB2.out) (by simp)) (by simp)) (by simp)
end Go.Proofs.Ytdbgpakmbjhmgaa.H

/- Finalise. -/
namespace Go.Proofs.Ytdbgpakmbjhmgaa.H
open Go.RowKit Go.Proofs.YtdbgpakmbjhmgaaW.PrintWords Go.Proofs.YtdbgpakmbjhmgaaW.PrintLast Go.Proofs.YtdbgpakmbjhmgaaW.PrintMore
set_option linter.unusedVariables false
set_option linter.unusedSimpArgs false

def fFin (lv : Int) (ms : List S45) (ps : List S48) : Int × Int × List S45 × List S48 :=
  if membersOk ms 2 then (0, 2, ms, ps) else (22, lv, ms, ps)

theorem enter_fin1 : ∀ args w, (callFunc 42 args).run Try.prog w = .ok (.enter 42 args) w := enters_of Try.func42 (by kernel_rfl) rfl

set_option maxHeartbeats 1000000 in
theorem fin1_does (w0 : World) : Does w0 42 #[] fFin := by
  intro W g lv v1 v2 ms ps hb hg hgb ho1 ho2 hrt
  show Calls Try.prog 42 #[.pointer (some ⟨g, 0, none⟩)] W _
  obtain ⟨A3, c3, rfl⟩ := Kd.R_slice ho1
  obtain ⟨A4, c4, rfl⟩ := Kd.R_slice ho2
  have HC := Lib.hid (members_calls A3 c3 ms 2 W (Kd.R_reads' ho1).2.2)
  have HG := Lib.hid hg
  have HB := Lib.hid hb
  have HO1 := Lib.hid ho1
  have HO2 := Lib.hid ho2
  obtain ⟨g0, g1, g2, _, _, _, _⟩ := three_cells hg
  clear hg hb ho1 ho2 hrt
  go_enter Try.func42, Try.ntmps42
  go_wp2_with fail
  refine HC.out.mono ?_
  rintro e W1 ⟨rfl, hb1⟩
  have HB1 := Lib.hid (below_then HB.out HB.out.size hb1)
  have HG1 := Lib.hid (kept_on hb1 HG.out)
  have HO3 := Lib.hid (Kd.R_below HO1.out hb1)
  have HO4 := Lib.hid (Kd.R_below HO2.out hb1)
  clear g0 g1 g2 hb1
  cases hm : membersOk ms 2
  · have HF := Lib.hid (show fFin lv ms ps = (22, lv, ms, ps) by simp [fFin, hm])
    go_wp2
    go_ret
    rw [HF.out]
    exact ⟨rfl, HB1.out, fun h => by simp at h⟩
  · have HF := Lib.hid (show fFin lv ms ps = (0, 2, ms, ps) by simp [fFin, hm])
    obtain ⟨q0, q1, q2, q3, q4, q5, q6⟩ := three_cells HG1.out
    go_wp2
    go_ret
    rw [HF.out]
    have e1 := blk_set HG1.out 0 (.int .i64 2)
    exact ⟨rfl, below_set HB1.out hgb, fun _ => ⟨_, _, by simpa using e1, Kd.R_set HO3.out HG1.out (by decide) 0 _, Kd.R_set HO4.out HG1.out (by decide) 0 _⟩⟩

def finC (lv : Int) (ms : List S45) (ps : List S48) := changedC fFin lv ms ps

set_option maxHeartbeats 1000000 in
theorem finalise_calls (lv : Int) (A1 : Option Addr) (c1 : Nat) (ms : List S45) (A2 : Option Addr) (c2 : Nat) (ps : List S48) (w : World)
    (hr1 : Kd.C k45 w A1 ms.length ms) (hr2 : Kd.C k48 w A2 ps.length ps) (hl1 : ms.length * 16 ≤ 140737488355328) (hl2 : ps.length * 24 ≤ 140737488355328) :
    Calls Try.prog 18 #[.agg #[.int .i64 lv, .slice A1 ms.length c1, .slice A2 ps.length c2]] w fun e w' =>
      ∃ v1 v2, e = .returned (.tuple #[.agg #[.int .i64 (finC lv ms ps).2.1, v1, v2], .int .i64 (finC lv ms ps).1]) ∧ Kd.R k45 45 w' w.heap.size (fun _ => True) v1 (finC lv ms ps).2.2.1 ∧ Kd.R k48 48 w' w.heap.size (fun _ => True) v2 (finC lv ms ps).2.2.2 ∧ Below w.heap.size w w' := by
  generalize hW0 : (w.alloc (.cells #[.int .i64 lv, .slice A1 ms.length c1, .slice A2 ps.length c2] 26)).alloc (.cells #[.int .i64 0, .slice none 0 0, .slice none 0 0] 26) = W0
  have HB0 := Lib.hid (show Below w.heap.size w W0 by rw [← hW0]; exact below_alloc (below_alloc (Below.refl w.heap.size w) _) _)
  have HCC := Lib.hid (changed_calls 42 #[] fFin lv A1 c1 ms A2 c2 ps W0 enter_fin1 (Kd.C_below hr1 HB0.out) (Kd.C_below hr2 HB0.out) hl1 hl2 (fun w0 _ => fin1_does w0))
  have HT := Lib.hid (two_alloc w (.cells #[.int .i64 lv, .slice A1 ms.length c1, .slice A2 ps.length c2] 26) (.cells #[.int .i64 0, .slice none 0 0, .slice none 0 0] 26))
  have HFD := Lib.hid (show finC lv ms ps = changedC fFin lv ms ps from rfl)
  have HW0 := Lib.hid hW0; clear hW0 hr1 hr2 hl1 hl2
  generalize changedC fFin lv ms ps = r at *
  go_enter Try.func18, Try.ntmps18
  go_wp2_with fail
  rw [HW0.out]
  refine HCC.out.mono ?_
  rintro e W1 ⟨v1, v2, rfl, ho1, ho2, hb1⟩
  obtain ⟨A3, c3, rfl⟩ := Kd.R_slice ho1
  obtain ⟨A4, c4, rfl⟩ := Kd.R_slice ho2
  have HZ1 := Lib.hid (kept_on hb1 (HW0.out ▸ HT.out.2.1))
  have HB1 := Lib.hid (below_then HB0.out HB0.out.size hb1)
  have HO3 := Lib.hid (Kd.R_lower ho1 HB0.out.size)
  have HO4 := Lib.hid (Kd.R_lower ho2 HB0.out.size)
  clear ho1 ho2 hb1
  obtain ⟨q0, q1, q2, q3, q4, q5, q6⟩ := three_cells HZ1.out
  go_wp2
  have e1 := blk_set HZ1.out 0 (.int .i64 r.2.1)
  have e2 := blk_set e1 1 (.slice A3 r.2.2.1.length c3)
  have e3 := blk_set e2 2 (.slice A4 r.2.2.2.length c4)
  refine ret_C (g := w.heap.size + 1) (lv := r.2.1) (s1 := .slice A3 r.2.2.1.length c3) (s2 := .slice A4 r.2.2.2.length c4) (v := .int .i64 r.1) Try.results18 rfl rfl rfl (by simpa using e3) ?_
  refine ⟨_, _, by rw [HFD.out], ?_, ?_, ?_⟩
  · rw [HFD.out]; exact Kd.R_set (Kd.R_set (Kd.R_set HO3.out HZ1.out (by decide) 0 _) e1 (by decide) 1 _) e2 (by decide) 2 _
  · rw [HFD.out]; exact Kd.R_set (Kd.R_set (Kd.R_set HO4.out HZ1.out (by decide) 0 _) e1 (by decide) 1 _) e2 (by decide) 2 _
  · exact below_set (below_set (below_set HB1.out (by simp)) (by simp)) (by simp)
end Go.Proofs.Ytdbgpakmbjhmgaa.H

/- Report. -/
namespace Go.Proofs.Ytdbgpakmbjhmgaa.H
open Go.RowKit Go.Proofs.YtdbgpakmbjhmgaaW.PrintWords Go.Proofs.YtdbgpakmbjhmgaaW.PrintLast Go.Proofs.YtdbgpakmbjhmgaaW.PrintMore
set_option linter.unusedVariables false
set_option linter.unusedSimpArgs false

def fRep (name bin : Int) (lv : Int) (ms : List S45) (ps : List S48) : Int × Int × List S45 × List S48 :=
  if version bin = false then (1, lv, ms, ps) else if hasM ms name = false then (70, lv, ms, ps) else if bin < lv then (22, lv, ms, ps)
  else (0, lv, ms.set (idx (named name) ms 0).toNat ⟨(rd_T45 ms (idx (named name) ms 0)).f0, bin⟩, ps)

theorem cell_far (W : World) {a p : Addr} (v : Value) (h : a.block ≠ p.block) : (W.setCell p v).cell? a = W.cell? a := World.cell?_of_block (Below.heap_setCell W p v a.block h)
theorem idx_lt {α : Type} (p : α → Bool) : ∀ (l : List α) (n : Nat), l.any p = true → (n : Int) ≤ idx p l n ∧ idx p l n < n + l.length
  | [], _, h => by simp at h
  | x :: xs, n, h => by
    rw [idx]
    cases hp : p x
    · have h2 : xs.any p = true := by simpa [hp] using h
      have := idx_lt p xs (n + 1) h2
      simp only [List.length_cons]
      simp
      omega
    · simp only [if_true, List.length_cons]; omega

/-- A member's binary is stored. -/
theorem R_bin {W : World} {base g n cap : Nat} {ok : Nat → Prop} {xs : List S45} (h : Kd.R k45 45 W base ok (.slice (some ⟨g, 0, none⟩) n cap) xs) (i : Int) (h0 : 0 ≤ i) (h1 : i < n) (x : Int) :
    Kd.R k45 45 (W.setCell ⟨g, i.toNat * 2 + 1, none⟩ (.int .i64 x)) base ok (.slice (some ⟨g, 0, none⟩) n cap) (xs.set i.toNat ⟨(rd_T45 xs i).f0, x⟩) := by
  obtain ⟨c, hcl, hM, hcc, _⟩ := Kd.R_elem h z45 i h0 h1
  obtain rfl := k45_openM hM
  exact (Kd.R_seg h i h0 h1 (seg := [.int .i64 x]) (j := 1) (okp := fun _ => False) rfl hcc (by show 1 + 1 ≤ 2; omega) (k45_mkM _ _ _ ⟨(rd_T45 xs i).f0, x⟩) (fun _ h => h.elim)).1

theorem enter_rep1 : ∀ args w, (callFunc 55 args).run Try.prog w = .ok (.enter 55 args) w := enters_of Try.func55 (by kernel_rfl) rfl

set_option maxHeartbeats 2000000 in
set_option maxRecDepth 100000 in
theorem rep1_does (name bin : Int) (B1 B2 : Nat) (w0 : World) (hn : w0.cell? ⟨B1, 0, none⟩ = some (.int .i64 name)) (hbn : w0.cell? ⟨B2, 0, none⟩ = some (.int .i64 bin)) :
    Does w0 55 #[.pointer (some ⟨B1, 0, none⟩), .pointer (some ⟨B2, 0, none⟩)] (fRep name bin) := by
  intro W g lv v1 v2 ms ps hb hg hgb ho1 ho2 hrt
  show Calls Try.prog 55 #[.pointer (some ⟨g, 0, none⟩), .pointer (some ⟨B1, 0, none⟩), .pointer (some ⟨B2, 0, none⟩)] W _
  have hB1 := World.block_lt_of_cell? w0 _ hn
  have hB2 := World.block_lt_of_cell? w0 _ hbn
  obtain ⟨A3, c3, rfl⟩ := Kd.R_slice ho1
  obtain ⟨A4, c4, rfl⟩ := Kd.R_slice ho2
  have HC := Lib.hid (at_calls A3 c3 ms name W.drew (Kd.R_reads' ho1).2.2)
  have HG := Lib.hid hg
  have HB := Lib.hid hb
  have HO1 := Lib.hid ho1
  have HO2 := Lib.hid ho2
  have HN := Lib.hid hn
  have HBN := Lib.hid hbn
  obtain ⟨g0, g1, g2, _, _, _, _⟩ := three_cells hg
  have n0 := (hb.cell (p := ⟨B1, 0, none⟩) hB1).trans hn
  have n1 := (hb.cell (p := ⟨B2, 0, none⟩) hB2).trans hbn
  clear hg hb ho1 ho2 hrt hn hbn
  go_enter Try.func55, Try.ntmps55
  go_wp2_with fail
  go_region_held3 (fun W' => W'.cell? ⟨g, 1, none⟩ = some (.slice A3 ms.length c3) ∧ W'.cell? ⟨B1, 0, none⟩ = some (.int .i64 name))
    (first | go_keep | trivial)
    (first | (go_at_call 35; refine HC.out.mono ?_; rintro e W1 ⟨rfl, hb1⟩; have q := And.intro ((kept_cell hb1 g1)) (kept_cell hb1 n0)))
  have HB1 := Lib.hid (below_then HB.out HB.out.size (show Below W.heap.size W W1 from ⟨hb1.os, hb1.tape, hb1.output, hb1.size, hb1.block⟩))
  have HG1 := Lib.hid (kept_on hb1 HG.out)
  have HO3 := Lib.hid (Kd.R_below (show Kd.R k45 45 W.drew w0.heap.size (fun _ => True) (.slice A3 ms.length c3) ms from HO1.out) hb1)
  have HO4 := Lib.hid (Kd.R_below (show Kd.R k48 48 W.drew w0.heap.size (fun _ => True) (.slice A4 ps.length c4) ps from HO2.out) hb1)
  clear g0 g1 g2 n0 n1 q hb1
  have n0 := (HB1.out.cell (p := ⟨B1, 0, none⟩) hB1).trans HN.out
  have n1 := (HB1.out.cell (p := ⟨B2, 0, none⟩) hB2).trans HBN.out
  obtain ⟨g0, g1, g2, q3, q4, q5, q6⟩ := three_cells HG1.out
  go_wp2_with fail
  refine (version_calls _ _).mono ?_
  rintro e W' ⟨rfl, rfl⟩
  cases hv : version bin
  · have HF := Lib.hid (show fRep name bin lv ms ps = (1, lv, ms, ps) by simp [fRep, hv])
    go_wp2
    go_ret
    rw [HF.out]
    exact ⟨rfl, HB1.out, fun h => by simp at h⟩
  have HV := Lib.hid hv; clear hv
  cases hh : hasM ms name
  · have HF := Lib.hid (show fRep name bin lv ms ps = (70, lv, ms, ps) by simp [fRep, HV.out, hh])
    go_wp2
    go_ret
    rw [HF.out]
    exact ⟨rfl, HB1.out, fun h => by simp at h⟩
  have HH := Lib.hid hh; clear hh
  by_cases hl : bin < lv
  · have HF := Lib.hid (show fRep name bin lv ms ps = (22, lv, ms, ps) by simp [fRep, HV.out, HH.out, hl])
    go_wp2_with fail
    go_quiet (fail)
    go_wp2
    go_ret
    rw [HF.out]
    exact ⟨rfl, pw_below_drewN HB1.out _, fun h => by simp at h⟩
  · have HF := Lib.hid (show fRep name bin lv ms ps = (0, lv, ms.set (idx (named name) ms 0).toNat ⟨(rd_T45 ms (idx (named name) ms 0)).f0, bin⟩, ps) by simp [fRep, HV.out, HH.out, hl])
    obtain ⟨i0, i1⟩ := idx_lt (named name) ms 0 HH.out
    have hpos : 0 < ms.length := by omega
    obtain ⟨gg, cc, he, hgg, hgl, cells, hcells⟩ := Kd.R_form HO3.out hpos
    injection he with he1 _ he3
    subst he1; subst he3
    generalize hix : idx (named name) ms 0 = ix at *
    have HIX := Lib.hid hix; clear hix
    have i2 : 0 ≤ ix := by omega
    have i3 : ix < (ms.length : Int) := by omega
    obtain ⟨cs, hcl, hM, hcc, hfr⟩ := Kd.R_elem HO3.out z45 ix i2 i3
    have e0 := hcc 1 (.int .i64 (rd_T45 ms ix).f1) (by rw [k45_openM hM]; rfl)
    have e1 := hfr 1
    rw [show k45.sz = 2 from rfl] at e0 e1
    have hgne : g ≠ gg := fun he => by have h := HG1.out; rw [he, hcells] at h; injection h with h; injection h with _ h; exact absurd h (by decide)
    have hbne : B2 ≠ gg := by omega
    clear hcl hM hcc hfr i0 i1
    have HCE := Lib.hid hcells; clear hcells
    go_wp2_with fail
    go_quiet (fail)
    go_wp2_with fail
    have hkp : ∀ W' : World, (W'.cell? ⟨g, 1, none⟩ = some (.slice (some ⟨gg, 0, none⟩) ms.length c3) ∧ W'.cell? ⟨B2, 0, none⟩ = some (.int .i64 bin)) → ((W'.setCell ⟨gg, ix.toNat * 2 + 1, none⟩ (.int .i64 bin)).cell? ⟨g, 1, none⟩ = some (.slice (some ⟨gg, 0, none⟩) ms.length c3) ∧ (W'.setCell ⟨gg, ix.toNat * 2 + 1, none⟩ (.int .i64 bin)).cell? ⟨B2, 0, none⟩ = some (.int .i64 bin)) :=
      fun W' h => ⟨(cell_far W' _ hgne).trans h.1, (cell_far W' _ hbne).trans h.2⟩
    go_region_held3 (fun W' => W'.cell? ⟨g, 1, none⟩ = some (.slice (some ⟨gg, 0, none⟩) ms.length c3) ∧ W'.cell? ⟨B2, 0, none⟩ = some (.int .i64 bin))
      (first | exact hkp _ (by assumption) | go_keep)
      (fail)
    go_wp2
    go_ret
    rw [HF.out]
    have HG2 := blk_far HG1.out (show g ≠ gg from hgne) (p := ⟨gg, ix.toNat * 2 + 1, none⟩) (.int .i64 bin)
    refine ⟨rfl, below_set (pw_below_drewN HB1.out _) hgg, fun _ => ⟨_, _, HG2, ?_, ?_⟩⟩
    · exact R_bin HO3.out ix i2 i3 bin
    · exact Kd.R_mono (Kd.R_far (p := ⟨gg, ix.toNat * 2 + 1, none⟩) (Kd.R_types HO4.out HCE.out (by decide)) (fun _ hk => hk.2) (.int .i64 bin)) (fun _ _ => trivial)
end Go.Proofs.Ytdbgpakmbjhmgaa.H

/- Report. -/
namespace Go.Proofs.Ytdbgpakmbjhmgaa.H
open Go.RowKit Go.Proofs.YtdbgpakmbjhmgaaW.PrintWords Go.Proofs.YtdbgpakmbjhmgaaW.PrintLast Go.Proofs.YtdbgpakmbjhmgaaW.PrintMore
set_option linter.unusedVariables false
set_option linter.unusedSimpArgs false

def reportC (name bin : Int) (lv : Int) (ms : List S45) (ps : List S48) : Int × Int × List S45 × List S48 := changedC (fRep name bin) lv ms ps

set_option maxHeartbeats 1000000 in
theorem report_calls (name bin : Int) (lv : Int) (A1 : Option Addr) (c1 : Nat) (ms : List S45) (A2 : Option Addr) (c2 : Nat) (ps : List S48) (w : World)
    (hr1 : Kd.C k45 w A1 ms.length ms) (hr2 : Kd.C k48 w A2 ps.length ps) (hl1 : ms.length * 16 ≤ 140737488355328) (hl2 : ps.length * 24 ≤ 140737488355328) :
    Calls Try.prog 24 #[.agg #[.int .i64 lv, .slice A1 ms.length c1, .slice A2 ps.length c2], .int .i64 name, .int .i64 bin] w fun e w' => ∃ v1 v2, e = .returned (.tuple #[.agg #[.int .i64 (reportC name bin lv ms ps).2.1, v1, v2], .int .i64 (reportC name bin lv ms ps).1]) ∧ Kd.R k45 45 w' w.heap.size (fun _ => True) v1 (reportC name bin lv ms ps).2.2.1 ∧ Kd.R k48 48 w' w.heap.size (fun _ => True) v2 (reportC name bin lv ms ps).2.2.2 ∧ Below w.heap.size w w' := by
  generalize hW0 : (((w.alloc (.cells #[.int .i64 lv, .slice A1 ms.length c1, .slice A2 ps.length c2] 26)).alloc (.cells #[.int .i64 name] 3)).alloc (.cells #[.int .i64 bin] 3)).alloc (.cells #[.int .i64 0, .slice none 0 0, .slice none 0 0] 26) = W0
  have HB0 := Lib.hid (show Below w.heap.size w W0 by rw [← hW0]; exact below_alloc (below_alloc (below_alloc (below_alloc (Below.refl w.heap.size w) _) _) _) _)
  have HA0 := Lib.hid (show W0.heap[w.heap.size]? = some (.cells #[.int .i64 lv, .slice A1 ms.length c1, .slice A2 ps.length c2] 26) by rw [← hW0]; exact alloc_on (alloc_on (alloc_on (new_at (by simp) _) _) _) _)
  have HA1 := Lib.hid (show W0.heap[w.heap.size + 1]? = some (.cells #[.int .i64 name] 3) by rw [← hW0]; exact alloc_on (alloc_on (new_at (by simp) _) _) _)
  have HA2 := Lib.hid (show W0.heap[w.heap.size + 2]? = some (.cells #[.int .i64 bin] 3) by rw [← hW0]; exact alloc_on (new_at (by simp) _) _)
  have HA3 := Lib.hid (show W0.heap[w.heap.size + 3]? = some (.cells #[.int .i64 0, .slice none 0 0, .slice none 0 0] 26) by rw [← hW0]; exact new_at (by simp) _)
  have HCC := Lib.hid (changed_calls 55 #[.pointer (some ⟨w.heap.size + 1, 0, none⟩), .pointer (some ⟨w.heap.size + 2, 0, none⟩)] (fRep name bin) lv A1 c1 ms A2 c2 ps W0 enter_rep1 (Kd.C_below hr1 HB0.out) (Kd.C_below hr2 HB0.out) hl1 hl2 (fun w0 hb => rep1_does name bin (w.heap.size + 1) (w.heap.size + 2) w0 (kept_cell hb ((blk_cell HA1.out 0).trans rfl)) (kept_cell hb ((blk_cell HA2.out 0).trans rfl))))
  have HFD := Lib.hid (show reportC name bin lv ms ps = changedC (fRep name bin) lv ms ps from rfl)
  have HW0 := Lib.hid hW0; clear hW0 hr1 hr2 hl1 hl2
  generalize changedC (fRep name bin) lv ms ps = r at *
  go_enter Try.func24, Try.ntmps24
  go_wp2_with fail
  rw [HW0.out]
  refine HCC.out.mono ?_
  rintro e W1 ⟨v1, v2, rfl, ho1, ho2, hb1⟩
  obtain ⟨A3, c3, rfl⟩ := Kd.R_slice ho1
  obtain ⟨A4, c4, rfl⟩ := Kd.R_slice ho2
  have HZ1 := Lib.hid (kept_on hb1 HA3.out)
  have HB1 := Lib.hid (below_then HB0.out HB0.out.size hb1)
  have HO3 := Lib.hid (Kd.R_lower ho1 HB0.out.size)
  have HO4 := Lib.hid (Kd.R_lower ho2 HB0.out.size)
  clear ho1 ho2 hb1
  obtain ⟨q0, q1, q2, q3, q4, q5, q6⟩ := three_cells HZ1.out
  go_wp2
  have e1 := blk_set HZ1.out 0 (.int .i64 r.2.1)
  have e2 := blk_set e1 1 (.slice A3 r.2.2.1.length c3)
  have e3 := blk_set e2 2 (.slice A4 r.2.2.2.length c4)
  refine ret_C (g := w.heap.size + 3) (lv := r.2.1) (s1 := .slice A3 r.2.2.1.length c3) (s2 := .slice A4 r.2.2.2.length c4) (v := .int .i64 r.1) Try.results24 rfl rfl rfl (by simpa using e3) ?_
  refine ⟨_, _, by rw [HFD.out], ?_, ?_, ?_⟩
  · rw [HFD.out]; exact Kd.R_set (Kd.R_set (Kd.R_set HO3.out HZ1.out (by decide) 0 _) e1 (by decide) 1 _) e2 (by decide) 2 _
  · rw [HFD.out]; exact Kd.R_set (Kd.R_set (Kd.R_set HO4.out HZ1.out (by decide) 0 _) e1 (by decide) 1 _) e2 (by decide) 2 _
  · exact below_set (below_set (below_set HB1.out (by omega)) (by omega)) (by omega)
end Go.Proofs.Ytdbgpakmbjhmgaa.H

/- One of the places is changed. -/
namespace Go.Proofs.Ytdbgpakmbjhmgaa.H
open Go.RowKit Go.Proofs.YtdbgpakmbjhmgaaW.PrintWords Go.Proofs.YtdbgpakmbjhmgaaW.PrintLast Go.Proofs.YtdbgpakmbjhmgaaW.PrintMore
set_option linter.unusedVariables false
set_option linter.unusedSimpArgs false

theorem kept_grown {W w2 : World} {g : Nat} {a : Addr} {v : Value} (hg : W.grownBy w2 (some g)) (h : W.cell? a = some v) (hne : a.block ≠ g) : w2.cell? a = some v :=
  (World.cell?_of_block (hg.block a.block (World.block_lt_of_cell? W a h) (by simpa using hne))).trans h
/-- What a closure leaves that is handed one of the places of a row of the call's own. -/
def PAfter (w0 W : World) (gg n cap : Nat) (xs : List S48) (i : Int) (r : Int × S48) (e : Ending) (W' : World) : Prop :=
  e = .returned (.int .i64 r.1) ∧ Below w0.heap.size w0 W' ∧ W.grownBy W' (some gg) ∧ Kd.R k48 48 W' w0.heap.size (fun _ => True) (.slice (some ⟨gg, 0, none⟩) n cap) (if r.1 = 0 then xs.set i.toNat r.2 else xs)
def PDoes (w0 : World) (F : Nat) (caps : Array Value) (pf : S48 → Int × S48) : Prop :=
  ∀ (W : World) (gg n cap : Nat) (xs : List S48) (i : Int), Below w0.heap.size w0 W → w0.heap.size ≤ gg → Kd.R k48 48 W w0.heap.size (fun _ => True) (.slice (some ⟨gg, 0, none⟩) n cap) xs → 0 ≤ i → i < n →
    Calls Try.prog F (#[.pointer (some ⟨gg, i.toNat * 3, none⟩)] ++ caps) W (PAfter w0 W gg n cap xs i (pf (rd_T48 xs i)))

def fPlaced (shard : Int) (pf : S48 → Int × S48) (lv : Int) (ms : List S45) (ps : List S48) : Int × Int × List S45 × List S48 :=
  if shard < 0 then (83, lv, ms, ps) else if (ps.length : Int) ≤ shard then (83, lv, ms, ps)
  else ((pf (rd_T48 ps shard)).1, lv, ms, if (pf (rd_T48 ps shard)).1 = 0 then ps.set shard.toNat (pf (rd_T48 ps shard)).2 else ps)

theorem enter_placed1 : ∀ args w, (callFunc 70 args).run Try.prog w = .ok (.enter 70 args) w := enters_of Try.func70 (by kernel_rfl) rfl

set_option maxHeartbeats 2000000 in
set_option maxRecDepth 100000 in
theorem placed1_does (shard : Int) (F : Nat) (caps : Array Value) (pf : S48 → Int × S48) (B1 B2 : Nat) (w0 : World) (eg : ∀ args w, (callFunc F args).run Try.prog w = .ok (.enter F args) w)
    (hn : w0.cell? ⟨B1, 0, none⟩ = some (.int .i64 shard)) (hbn : w0.cell? ⟨B2, 0, none⟩ = some (.func (.func F) #[] caps)) (hp : PDoes w0 F caps pf) :
    Does w0 70 #[.pointer (some ⟨B1, 0, none⟩), .pointer (some ⟨B2, 0, none⟩)] (fPlaced shard pf) := by
  intro W g lv v1 v2 ms ps hb hg hgb ho1 ho2 hrt
  show Calls Try.prog 70 #[.pointer (some ⟨g, 0, none⟩), .pointer (some ⟨B1, 0, none⟩), .pointer (some ⟨B2, 0, none⟩)] W _
  have hB1 := World.block_lt_of_cell? w0 _ hn
  have hB2 := World.block_lt_of_cell? w0 _ hbn
  obtain ⟨A3, c3, rfl⟩ := Kd.R_slice ho1
  obtain ⟨A4, c4, rfl⟩ := Kd.R_slice ho2
  have hm : ps.length ≤ 9223372036854775807 := (Kd.R_reads' ho2).2.2.2.1
  have HG := Lib.hid hg
  have HB := Lib.hid hb
  have HO1 := Lib.hid ho1
  have HO2 := Lib.hid ho2
  have HN := Lib.hid hn
  have HBN := Lib.hid hbn
  have HP := Lib.hid hp
  obtain ⟨g0, g1, g2, _, _, _, _⟩ := three_cells hg
  have n0 := (hb.cell (p := ⟨B1, 0, none⟩) hB1).trans hn
  have n1 := (hb.cell (p := ⟨B2, 0, none⟩) hB2).trans hbn
  clear hg hb ho1 ho2 hrt hn hbn hp
  by_cases h0 : shard < 0
  · have HF := Lib.hid (show fPlaced shard pf lv ms ps = (83, lv, ms, ps) by simp [fPlaced, h0])
    go_enter Try.func70, Try.ntmps70
    go_wp2_with fail
    go_quiet (fail)
    go_wp2
    go_ret
    rw [HF.out]
    exact ⟨rfl, pw_below_drewN HB.out _, fun h => by simp at h⟩
  by_cases h1 : (ps.length : Int) ≤ shard
  · have HF := Lib.hid (show fPlaced shard pf lv ms ps = (83, lv, ms, ps) by simp [fPlaced, h0, h1])
    have hd : decide (shard < 0) = false := by simpa using h0
    go_enter Try.func70, Try.ntmps70
    go_wp2_with fail
    go_quiet (fail)
    go_wp2
    go_ret
    rw [HF.out]
    exact ⟨rfl, pw_below_drewN HB.out _, fun h => by simp at h⟩
  · have HF := Lib.hid (show fPlaced shard pf lv ms ps = ((pf (rd_T48 ps shard)).1, lv, ms, if (pf (rd_T48 ps shard)).1 = 0 then ps.set shard.toNat (pf (rd_T48 ps shard)).2 else ps) by simp [fPlaced, h0, h1])
    have hd : decide (shard < 0) = false := by simpa using h0
    have i0 : 0 ≤ shard := by omega
    have i1 : shard < (ps.length : Int) := by omega
    obtain ⟨gg, cc, he, hgg, hgl, cells, hcells⟩ := Kd.R_form HO2.out (by omega)
    injection he with he1 _ he3
    subst he1; subst he3
    have hgne : g ≠ gg := fun he => by have h := HG.out; rw [he, hcells] at h; injection h with h; injection h with _ h; exact absurd h (by decide)
    have HCE := Lib.hid hcells; clear hcells
    have HI := Lib.hid (And.intro i0 i1)
    go_enter Try.func70, Try.ntmps70
    go_wp2_with fail
    go_quiet (fail)
    go_wp2_with fail
    go_region_held3 (fun W' => W'.cell? ⟨g, 2, none⟩ = some (.slice (some ⟨gg, 0, none⟩) ps.length c4) ∧ W'.cell? ⟨B1, 0, none⟩ = some (.int .i64 shard) ∧ W'.cell? ⟨B2, 0, none⟩ = some (.func (.func F) #[] caps))
      (first | trivial | go_keep)
      (first | (refine (HP.out _ gg _ _ ps shard (pw_below_drewN HB.out _) hgg HO2.out HI.out.1 HI.out.2).mono ?_; rintro e W2 ⟨rfl, hb2, hg2, hr2⟩; have q := And.intro (kept_grown hg2 g2 hgne) (And.intro (kept_grown hg2 n0 (show B1 ≠ gg by omega)) (kept_grown hg2 n1 (show B2 ≠ gg by omega)))))
    have hg3 : W.grownBy W2 (some gg) := ⟨hg2.os, hg2.tape, hg2.output, hg2.size, hg2.block⟩
    have HR2 := Lib.hid hr2
    have HG2 := Lib.hid ((hg2.block g (blk_lt HG.out) (by simpa using hgne)).trans HG.out)
    have HO3 := Lib.hid (Kd.R_grown (Kd.R_types HO1.out HCE.out (by decide)) hg3 (fun k hk he => hk.2 (by simpa using he)))
    have HB2 := Lib.hid hb2
    clear q hr2 hg2 hg3 hb2 n0 n1 g0 g1 g2
    go_wp2
    go_ret
    rw [HF.out]
    refine ⟨rfl, HB2.out, fun _ => ⟨_, _, HG2.out, Kd.R_mono HO3.out (fun _ _ => trivial), ?_⟩⟩
    have h5 := HR2.out
    by_cases h6 : (pf (rd_T48 ps shard)).1 = 0
    · simp only [if_pos h6] at h5 ⊢
      exact h5
    · simp only [if_neg h6] at h5 ⊢
      exact h5
end Go.Proofs.Ytdbgpakmbjhmgaa.H

/- What Plan, Commit and Cancel do to a place. -/
namespace Go.Proofs.Ytdbgpakmbjhmgaa.H
open Go.RowKit Go.Proofs.YtdbgpakmbjhmgaaW.PrintWords Go.Proofs.YtdbgpakmbjhmgaaW.PrintLast Go.Proofs.YtdbgpakmbjhmgaaW.PrintMore
set_option linter.unusedVariables false
set_option linter.unusedSimpArgs false

def pfPlan (is : Bool) (tt : Int) (p : S48) : Int × S48 :=
  if is = false then (70, p) else if ¬ p.f2 = 0 then (92, p) else if p.f0 = tt then (1, p) else if p.f1 = 9007199254740992 then (50, p) else (0, ⟨p.f0, p.f1, tt⟩)
def pfCommit (p : S48) : Int × S48 := if p.f2 = 0 then (70, p) else if p.f1 = 9007199254740992 then (50, p) else (0, ⟨p.f2, wrap64 (p.f1 + 1), 0⟩)
def pfCancel (p : S48) : Int × S48 := if p.f2 = 0 then (70, p) else (0, ⟨p.f0, p.f1, 0⟩)

theorem place_cells {W : World} {base g n cap : Nat} {ok : Nat → Prop} {xs : List S48} (h : Kd.R k48 48 W base ok (.slice (some ⟨g, 0, none⟩) n cap) xs) (i : Int) (h0 : 0 ≤ i) (h1 : i < n) :
    W.cell? ⟨g, i.toNat * 3, none⟩ = some (.int .i64 (rd_T48 xs i).f0) ∧ W.cell? ⟨g, i.toNat * 3 + 1, none⟩ = some (.int .i64 (rd_T48 xs i).f1) ∧ W.cell? ⟨g, i.toNat * 3 + 2, none⟩ = some (.int .i64 (rd_T48 xs i).f2) ∧
      W.frozen? ⟨g, i.toNat * 3, none⟩ = false ∧ W.frozen? ⟨g, i.toNat * 3 + 1, none⟩ = false ∧ W.frozen? ⟨g, i.toNat * 3 + 2, none⟩ = false := by
  obtain ⟨c, hcl, hM, hcc, hfr⟩ := Kd.R_elem h z48 i h0 h1
  obtain rfl := k48_openM hM
  exact ⟨hcc 0 _ rfl, hcc 1 _ rfl, hcc 2 _ rfl, hfr 0, hfr 1, hfr 2⟩
theorem R_to {W : World} {base g n cap : Nat} {ok : Nat → Prop} {xs : List S48} (h : Kd.R k48 48 W base ok (.slice (some ⟨g, 0, none⟩) n cap) xs) (i : Int) (h0 : 0 ≤ i) (h1 : i < n) (x : Int) :
    Kd.R k48 48 (W.setCell ⟨g, i.toNat * 3 + 2, none⟩ (.int .i64 x)) base ok (.slice (some ⟨g, 0, none⟩) n cap) (xs.set i.toNat ⟨(rd_T48 xs i).f0, (rd_T48 xs i).f1, x⟩) ∧ W.grownBy (W.setCell ⟨g, i.toNat * 3 + 2, none⟩ (.int .i64 x)) (some g) := by
  obtain ⟨c, hcl, hM, hcc, _⟩ := Kd.R_elem h z48 i h0 h1
  obtain rfl := k48_openM hM
  exact Kd.R_seg h i h0 h1 (seg := [.int .i64 x]) (j := 2) (okp := fun _ => False) rfl hcc (by show 2 + 1 ≤ 3; omega) (k48_mkM _ _ _ ⟨(rd_T48 xs i).f0, (rd_T48 xs i).f1, x⟩) (fun _ h => h.elim)
theorem R_place {W : World} {base g n cap : Nat} {ok : Nat → Prop} {xs : List S48} (h : Kd.R k48 48 W base ok (.slice (some ⟨g, 0, none⟩) n cap) xs) (i : Int) (h0 : 0 ≤ i) (h1 : i < n) (x y z : Int) :
    Kd.R k48 48 (((W.setCell ⟨g, i.toNat * 3, none⟩ (.int .i64 x)).setCell ⟨g, i.toNat * 3 + 1, none⟩ (.int .i64 y)).setCell ⟨g, i.toNat * 3 + 2, none⟩ (.int .i64 z)) base ok (.slice (some ⟨g, 0, none⟩) n cap) (xs.set i.toNat ⟨x, y, z⟩) ∧
      W.grownBy (((W.setCell ⟨g, i.toNat * 3, none⟩ (.int .i64 x)).setCell ⟨g, i.toNat * 3 + 1, none⟩ (.int .i64 y)).setCell ⟨g, i.toNat * 3 + 2, none⟩ (.int .i64 z)) (some g) := by
  obtain ⟨c, hcl, hM, hcc, _⟩ := Kd.R_elem h z48 i h0 h1
  obtain rfl := k48_openM hM
  exact Kd.R_seg h i h0 h1 (seg := [.int .i64 x, .int .i64 y, .int .i64 z]) (j := 0) (okp := fun _ => False) rfl hcc (by show 0 + 3 ≤ 3; omega) (k48_mkM _ _ _ ⟨x, y, z⟩) (fun _ h => h.elim)

theorem enter_cancel1 : ∀ args w, (callFunc 60 args).run Try.prog w = .ok (.enter 60 args) w := enters_of Try.func60 (by kernel_rfl) rfl
theorem enter_commit1 : ∀ args w, (callFunc 59 args).run Try.prog w = .ok (.enter 59 args) w := enters_of Try.func59 (by kernel_rfl) rfl
theorem enter_plan1 : ∀ args w, (callFunc 57 args).run Try.prog w = .ok (.enter 57 args) w := enters_of Try.func57 (by kernel_rfl) rfl

set_option maxHeartbeats 1000000 in
theorem cancel1_does (w0 : World) : PDoes w0 60 #[] pfCancel := by
  intro W gg n cap xs i hb hgg hr h0 h1
  show Calls Try.prog 60 #[.pointer (some ⟨gg, i.toNat * 3, none⟩)] W _
  have HR := Lib.hid hr
  have HB := Lib.hid hb
  obtain ⟨k0, k1, k2, f0, f1, f2⟩ := place_cells hr i h0 h1
  have HT := Lib.hid (R_to hr i h0 h1 0)
  generalize hp : rd_T48 xs i = p at *
  clear hr hb
  have HP := Lib.hid hp; clear hp
  by_cases hz : p.f2 = 0
  · have HF := Lib.hid (show pfCancel p = (70, p) by simp [pfCancel, hz])
    have hz2 : (p.f2 == 0) = true := by simpa using hz
    clear hz
    go_enter Try.func60, Try.ntmps60
    go_wp2
    go_ret
    rw [HF.out]
    exact ⟨rfl, HB.out, World.grownBy.refl _ _, by simpa using HR.out⟩
  · have HF := Lib.hid (show pfCancel p = (0, ⟨p.f0, p.f1, 0⟩) by simp [pfCancel, hz])
    have hz2 : (p.f2 == 0) = false := by simpa using hz
    clear hz
    go_enter Try.func60, Try.ntmps60
    go_wp2
    go_ret
    rw [HF.out]
    exact ⟨rfl, below_set HB.out hgg, HT.out.2, by simpa using HT.out.1⟩

set_option maxHeartbeats 1000000 in
theorem commit1_does (w0 : World) : PDoes w0 59 #[] pfCommit := by
  intro W gg n cap xs i hb hgg hr h0 h1
  show Calls Try.prog 59 #[.pointer (some ⟨gg, i.toNat * 3, none⟩)] W _
  have HR := Lib.hid hr
  have HB := Lib.hid hb
  obtain ⟨k0, k1, k2, f0, f1, f2⟩ := place_cells hr i h0 h1
  have HT := Lib.hid (R_place hr i h0 h1 (rd_T48 xs i).f2 (wrap64 ((rd_T48 xs i).f1 + 1)) 0)
  generalize hp : rd_T48 xs i = p at *
  clear hr hb
  have HP := Lib.hid hp; clear hp
  by_cases hz : p.f2 = 0
  · have HF := Lib.hid (show pfCommit p = (70, p) by simp [pfCommit, hz])
    have hz2 : (p.f2 == 0) = true := by simpa using hz
    clear hz
    go_enter Try.func59, Try.ntmps59
    go_wp2
    go_ret
    rw [HF.out]
    exact ⟨rfl, HB.out, World.grownBy.refl _ _, by simpa using HR.out⟩
  by_cases hm : p.f1 = 9007199254740992
  · have HF := Lib.hid (show pfCommit p = (50, p) by simp [pfCommit, hz, hm])
    have hz2 : (p.f2 == 0) = false := by simpa using hz
    have hm2 : (p.f1 == 9007199254740992) = true := by simpa using hm
    clear hz hm
    go_enter Try.func59, Try.ntmps59
    go_wp2
    go_ret
    rw [HF.out]
    exact ⟨rfl, HB.out, World.grownBy.refl _ _, by simpa using HR.out⟩
  · have HF := Lib.hid (show pfCommit p = (0, ⟨p.f2, wrap64 (p.f1 + 1), 0⟩) by simp [pfCommit, hz, hm])
    have hz2 : (p.f2 == 0) = false := by simpa using hz
    have hm2 : (p.f1 == 9007199254740992) = false := by simpa using hm
    clear hz hm
    go_enter Try.func59, Try.ntmps59
    go_wp2
    go_region
    go_wp2
    go_ret
    rw [HF.out]
    exact ⟨rfl, below_drew (below_set (below_set (below_set HB.out hgg) hgg) hgg), ⟨HT.out.2.os, HT.out.2.tape, HT.out.2.output, HT.out.2.size, HT.out.2.block⟩, by rw [if_pos rfl]; exact HT.out.1⟩

set_option maxHeartbeats 1000000 in
theorem plan1_does (is : Bool) (tt : Int) (B1 B2 : Nat) (w0 : World) (hn : w0.cell? ⟨B1, 0, none⟩ = some (.bool is)) (hbn : w0.cell? ⟨B2, 0, none⟩ = some (.int .i64 tt)) :
    PDoes w0 57 #[.pointer (some ⟨B1, 0, none⟩), .pointer (some ⟨B2, 0, none⟩)] (pfPlan is tt) := by
  intro W gg n cap xs i hb hgg hr h0 h1
  show Calls Try.prog 57 #[.pointer (some ⟨gg, i.toNat * 3, none⟩), .pointer (some ⟨B1, 0, none⟩), .pointer (some ⟨B2, 0, none⟩)] W _
  have HR := Lib.hid hr
  have HB := Lib.hid hb
  have n0 := (hb.cell (p := ⟨B1, 0, none⟩) (World.block_lt_of_cell? w0 _ hn)).trans hn
  have n1 := (hb.cell (p := ⟨B2, 0, none⟩) (World.block_lt_of_cell? w0 _ hbn)).trans hbn
  obtain ⟨k0, k1, k2, f0, f1, f2⟩ := place_cells hr i h0 h1
  have HT := Lib.hid (R_to hr i h0 h1 tt)
  generalize hp : rd_T48 xs i = p at *
  clear hr hb hn hbn
  have HP := Lib.hid hp; clear hp
  cases is
  · have HF := Lib.hid (show pfPlan false tt p = (70, p) by simp [pfPlan])
    go_enter Try.func57, Try.ntmps57
    go_wp2
    go_ret
    rw [HF.out]
    exact ⟨rfl, HB.out, World.grownBy.refl _ _, by simpa using HR.out⟩
  by_cases hz : ¬ p.f2 = 0
  · have HF := Lib.hid (show pfPlan true tt p = (92, p) by simp [pfPlan, hz])
    have hz2 : (p.f2 != 0) = true := by simpa using hz
    clear hz
    go_enter Try.func57, Try.ntmps57
    go_wp2
    go_ret
    rw [HF.out]
    exact ⟨rfl, HB.out, World.grownBy.refl _ _, by simpa using HR.out⟩
  replace hz := Decidable.not_not.1 hz
  have hz2 : (p.f2 != 0) = false := by simpa using hz
  by_cases ht : p.f0 = tt
  · have HF := Lib.hid (show pfPlan true tt p = (1, p) by simp [pfPlan, hz, ht])
    have ht2 : (p.f0 == tt) = true := by simpa using ht
    clear hz ht
    go_enter Try.func57, Try.ntmps57
    go_wp2_with fail
    go_quiet (fail)
    go_wp2
    go_ret
    rw [HF.out]
    exact ⟨rfl, pw_below_drewN HB.out _, ⟨rfl, rfl, rfl, Nat.le_refl _, fun _ _ _ => rfl⟩, by rw [if_neg (show ¬ ((_ : Int) = 0) by simp)]; exact HR.out⟩
  have ht2 : (p.f0 == tt) = false := by simpa using ht
  by_cases hm : p.f1 = 9007199254740992
  · have HF := Lib.hid (show pfPlan true tt p = (50, p) by simp [pfPlan, hz, ht, hm])
    have hm2 : (p.f1 == 9007199254740992) = true := by simpa using hm
    clear hz ht hm
    go_enter Try.func57, Try.ntmps57
    go_wp2_with fail
    go_quiet (fail)
    go_wp2
    go_ret
    rw [HF.out]
    exact ⟨rfl, pw_below_drewN HB.out _, ⟨rfl, rfl, rfl, Nat.le_refl _, fun _ _ _ => rfl⟩, by rw [if_neg (show ¬ ((_ : Int) = 0) by simp)]; exact HR.out⟩
  · have HF := Lib.hid (show pfPlan true tt p = (0, ⟨p.f0, p.f1, tt⟩) by simp [pfPlan, hz, ht, hm])
    have hm2 : (p.f1 == 9007199254740992) = false := by simpa using hm
    clear hz ht hm
    go_enter Try.func57, Try.ntmps57
    go_wp2_with fail
    go_quiet (fail)
    go_wp2
    go_ret
    rw [HF.out]
    exact ⟨rfl, below_set (pw_below_drewN HB.out _) hgg, ⟨HT.out.2.os, HT.out.2.tape, HT.out.2.output, HT.out.2.size, HT.out.2.block⟩, by rw [if_pos rfl]; exact HT.out.1⟩
end Go.Proofs.Ytdbgpakmbjhmgaa.H

/- placed, Commit, Cancel. -/
namespace Go.Proofs.Ytdbgpakmbjhmgaa.H
open Go.RowKit Go.Proofs.YtdbgpakmbjhmgaaW.PrintWords Go.Proofs.YtdbgpakmbjhmgaaW.PrintLast Go.Proofs.YtdbgpakmbjhmgaaW.PrintMore
set_option linter.unusedVariables false
set_option linter.unusedSimpArgs false

def placedC (shard : Int) (pf : S48 → Int × S48) (lv : Int) (ms : List S45) (ps : List S48) : Int × Int × List S45 × List S48 := changedC (fPlaced shard pf) lv ms ps

set_option maxHeartbeats 1000000 in
theorem placed_calls (F : Nat) (caps : Array Value) (eg : ∀ args w, (callFunc F args).run Try.prog w = .ok (.enter F args) w) (shard : Int) (pf : S48 → Int × S48) (lv : Int) (A1 : Option Addr) (c1 : Nat) (ms : List S45) (A2 : Option Addr) (c2 : Nat) (ps : List S48) (w : World)
    (hr1 : Kd.C k45 w A1 ms.length ms) (hr2 : Kd.C k48 w A2 ps.length ps) (hl1 : ms.length * 16 ≤ 140737488355328) (hl2 : ps.length * 24 ≤ 140737488355328) (hp : ∀ w0, Below w.heap.size w w0 → PDoes w0 F caps pf) :
    Calls Try.prog 56 #[.agg #[.int .i64 lv, .slice A1 ms.length c1, .slice A2 ps.length c2], .int .i64 shard, .func (.func F) #[] caps] w fun e w' => ∃ v1 v2, e = .returned (.tuple #[.agg #[.int .i64 (placedC shard pf lv ms ps).2.1, v1, v2], .int .i64 (placedC shard pf lv ms ps).1]) ∧ Kd.R k45 45 w' w.heap.size (fun _ => True) v1 (placedC shard pf lv ms ps).2.2.1 ∧ Kd.R k48 48 w' w.heap.size (fun _ => True) v2 (placedC shard pf lv ms ps).2.2.2 ∧ Below w.heap.size w w' := by
  generalize hW0 : (((w.alloc (.cells #[.int .i64 lv, .slice A1 ms.length c1, .slice A2 ps.length c2] 26)).alloc (.cells #[.int .i64 shard] 3)).alloc (.cells #[.func (.func F) #[] caps] 73)).alloc (.cells #[.int .i64 0, .slice none 0 0, .slice none 0 0] 26) = W0
  have HB0 := Lib.hid (show Below w.heap.size w W0 by rw [← hW0]; exact below_alloc (below_alloc (below_alloc (below_alloc (Below.refl w.heap.size w) _) _) _) _)
  have HA0 := Lib.hid (show W0.heap[w.heap.size]? = some (.cells #[.int .i64 lv, .slice A1 ms.length c1, .slice A2 ps.length c2] 26) by rw [← hW0]; exact alloc_on (alloc_on (alloc_on (new_at (by simp) _) _) _) _)
  have HA1 := Lib.hid (show W0.heap[w.heap.size + 1]? = some (.cells #[.int .i64 shard] 3) by rw [← hW0]; exact alloc_on (alloc_on (new_at (by simp) _) _) _)
  have HA2 := Lib.hid (show W0.heap[w.heap.size + 2]? = some (.cells #[.func (.func F) #[] caps] 73) by rw [← hW0]; exact alloc_on (new_at (by simp) _) _)
  have HA3 := Lib.hid (show W0.heap[w.heap.size + 3]? = some (.cells #[.int .i64 0, .slice none 0 0, .slice none 0 0] 26) by rw [← hW0]; exact new_at (by simp) _)
  have HCC := Lib.hid (changed_calls 70 #[.pointer (some ⟨w.heap.size + 1, 0, none⟩), .pointer (some ⟨w.heap.size + 2, 0, none⟩)] (fPlaced shard pf) lv A1 c1 ms A2 c2 ps W0 enter_placed1 (Kd.C_below hr1 HB0.out) (Kd.C_below hr2 HB0.out) hl1 hl2 (fun w0 hb => placed1_does shard F caps pf (w.heap.size + 1) (w.heap.size + 2) w0 eg (kept_cell hb ((blk_cell HA1.out 0).trans rfl)) (kept_cell hb ((blk_cell HA2.out 0).trans rfl)) (hp w0 (below_then HB0.out HB0.out.size hb))))
  have HFD := Lib.hid (show placedC shard pf lv ms ps = changedC (fPlaced shard pf) lv ms ps from rfl)
  have HW0 := Lib.hid hW0; clear hW0 hr1 hr2 hl1 hl2
  generalize changedC (fPlaced shard pf) lv ms ps = r at *
  go_enter Try.func56, Try.ntmps56
  go_wp2_with fail
  rw [HW0.out]
  refine HCC.out.mono ?_
  rintro e W1 ⟨v1, v2, rfl, ho1, ho2, hb1⟩
  obtain ⟨A3, c3, rfl⟩ := Kd.R_slice ho1
  obtain ⟨A4, c4, rfl⟩ := Kd.R_slice ho2
  have HZ1 := Lib.hid (kept_on hb1 HA3.out)
  have HB1 := Lib.hid (below_then HB0.out HB0.out.size hb1)
  have HO3 := Lib.hid (Kd.R_lower ho1 HB0.out.size)
  have HO4 := Lib.hid (Kd.R_lower ho2 HB0.out.size)
  clear ho1 ho2 hb1
  obtain ⟨q0, q1, q2, q3, q4, q5, q6⟩ := three_cells HZ1.out
  go_wp2
  have e1 := blk_set HZ1.out 0 (.int .i64 r.2.1)
  have e2 := blk_set e1 1 (.slice A3 r.2.2.1.length c3)
  have e3 := blk_set e2 2 (.slice A4 r.2.2.2.length c4)
  refine ret_C (g := w.heap.size + 3) (lv := r.2.1) (s1 := .slice A3 r.2.2.1.length c3) (s2 := .slice A4 r.2.2.2.length c4) (v := .int .i64 r.1) Try.results56 rfl rfl rfl (by simpa using e3) ?_
  refine ⟨_, _, by rw [HFD.out], ?_, ?_, ?_⟩
  · rw [HFD.out]; exact Kd.R_set (Kd.R_set (Kd.R_set HO3.out HZ1.out (by decide) 0 _) e1 (by decide) 1 _) e2 (by decide) 2 _
  · rw [HFD.out]; exact Kd.R_set (Kd.R_set (Kd.R_set HO4.out HZ1.out (by decide) 0 _) e1 (by decide) 1 _) e2 (by decide) 2 _
  · exact below_set (below_set (below_set HB1.out (by omega)) (by omega)) (by omega)

def commitC (shard : Int) (lv : Int) (ms : List S45) (ps : List S48) : Int × Int × List S45 × List S48 := placedC shard pfCommit lv ms ps

set_option maxHeartbeats 1000000 in
theorem commit_calls (shard : Int) (lv : Int) (A1 : Option Addr) (c1 : Nat) (ms : List S45) (A2 : Option Addr) (c2 : Nat) (ps : List S48) (w : World)
    (hr1 : Kd.C k45 w A1 ms.length ms) (hr2 : Kd.C k48 w A2 ps.length ps) (hl1 : ms.length * 16 ≤ 140737488355328) (hl2 : ps.length * 24 ≤ 140737488355328) :
    Calls Try.prog 28 #[.agg #[.int .i64 lv, .slice A1 ms.length c1, .slice A2 ps.length c2], .int .i64 shard] w fun e w' => ∃ v1 v2, e = .returned (.tuple #[.agg #[.int .i64 (commitC shard lv ms ps).2.1, v1, v2], .int .i64 (commitC shard lv ms ps).1]) ∧ Kd.R k45 45 w' w.heap.size (fun _ => True) v1 (commitC shard lv ms ps).2.2.1 ∧ Kd.R k48 48 w' w.heap.size (fun _ => True) v2 (commitC shard lv ms ps).2.2.2 ∧ Below w.heap.size w w' := by
  generalize hW0 : (w.alloc (.cells #[.int .i64 lv, .slice A1 ms.length c1, .slice A2 ps.length c2] 26)).alloc (.cells #[.int .i64 0, .slice none 0 0, .slice none 0 0] 26) = W0
  have HB0 := Lib.hid (show Below w.heap.size w W0 by rw [← hW0]; exact below_alloc (below_alloc (Below.refl w.heap.size w) _) _)
  have HA0 := Lib.hid (show W0.heap[w.heap.size]? = some (.cells #[.int .i64 lv, .slice A1 ms.length c1, .slice A2 ps.length c2] 26) by rw [← hW0]; exact alloc_on (new_at (by simp) _) _)
  have HA1 := Lib.hid (show W0.heap[w.heap.size + 1]? = some (.cells #[.int .i64 0, .slice none 0 0, .slice none 0 0] 26) by rw [← hW0]; exact new_at (by simp) _)
  have HCC := Lib.hid (placed_calls 59 #[] enter_commit1 shard pfCommit lv A1 c1 ms A2 c2 ps W0 (Kd.C_below hr1 HB0.out) (Kd.C_below hr2 HB0.out) hl1 hl2 (fun w0 _ => commit1_does w0))
  have HFD := Lib.hid (show commitC shard lv ms ps = placedC shard pfCommit lv ms ps from rfl)
  have HW0 := Lib.hid hW0; clear hW0 hr1 hr2 hl1 hl2
  generalize placedC shard pfCommit lv ms ps = r at *
  go_enter Try.func28, Try.ntmps28
  go_wp2_with fail
  rw [HW0.out]
  refine HCC.out.mono ?_
  rintro e W1 ⟨v1, v2, rfl, ho1, ho2, hb1⟩
  obtain ⟨A3, c3, rfl⟩ := Kd.R_slice ho1
  obtain ⟨A4, c4, rfl⟩ := Kd.R_slice ho2
  have HZ1 := Lib.hid (kept_on hb1 HA1.out)
  have HB1 := Lib.hid (below_then HB0.out HB0.out.size hb1)
  have HO3 := Lib.hid (Kd.R_lower ho1 HB0.out.size)
  have HO4 := Lib.hid (Kd.R_lower ho2 HB0.out.size)
  clear ho1 ho2 hb1
  obtain ⟨q0, q1, q2, q3, q4, q5, q6⟩ := three_cells HZ1.out
  go_wp2
  have e1 := blk_set HZ1.out 0 (.int .i64 r.2.1)
  have e2 := blk_set e1 1 (.slice A3 r.2.2.1.length c3)
  have e3 := blk_set e2 2 (.slice A4 r.2.2.2.length c4)
  refine ret_C (g := w.heap.size + 1) (lv := r.2.1) (s1 := .slice A3 r.2.2.1.length c3) (s2 := .slice A4 r.2.2.2.length c4) (v := .int .i64 r.1) Try.results28 rfl rfl rfl (by simpa using e3) ?_
  refine ⟨_, _, by rw [HFD.out], ?_, ?_, ?_⟩
  · rw [HFD.out]; exact Kd.R_set (Kd.R_set (Kd.R_set HO3.out HZ1.out (by decide) 0 _) e1 (by decide) 1 _) e2 (by decide) 2 _
  · rw [HFD.out]; exact Kd.R_set (Kd.R_set (Kd.R_set HO4.out HZ1.out (by decide) 0 _) e1 (by decide) 1 _) e2 (by decide) 2 _
  · exact below_set (below_set (below_set HB1.out (by omega)) (by omega)) (by omega)

def cancelC (shard : Int) (lv : Int) (ms : List S45) (ps : List S48) : Int × Int × List S45 × List S48 := placedC shard pfCancel lv ms ps

set_option maxHeartbeats 1000000 in
theorem cancel_calls (shard : Int) (lv : Int) (A1 : Option Addr) (c1 : Nat) (ms : List S45) (A2 : Option Addr) (c2 : Nat) (ps : List S48) (w : World)
    (hr1 : Kd.C k45 w A1 ms.length ms) (hr2 : Kd.C k48 w A2 ps.length ps) (hl1 : ms.length * 16 ≤ 140737488355328) (hl2 : ps.length * 24 ≤ 140737488355328) :
    Calls Try.prog 30 #[.agg #[.int .i64 lv, .slice A1 ms.length c1, .slice A2 ps.length c2], .int .i64 shard] w fun e w' => ∃ v1 v2, e = .returned (.tuple #[.agg #[.int .i64 (cancelC shard lv ms ps).2.1, v1, v2], .int .i64 (cancelC shard lv ms ps).1]) ∧ Kd.R k45 45 w' w.heap.size (fun _ => True) v1 (cancelC shard lv ms ps).2.2.1 ∧ Kd.R k48 48 w' w.heap.size (fun _ => True) v2 (cancelC shard lv ms ps).2.2.2 ∧ Below w.heap.size w w' := by
  generalize hW0 : (w.alloc (.cells #[.int .i64 lv, .slice A1 ms.length c1, .slice A2 ps.length c2] 26)).alloc (.cells #[.int .i64 0, .slice none 0 0, .slice none 0 0] 26) = W0
  have HB0 := Lib.hid (show Below w.heap.size w W0 by rw [← hW0]; exact below_alloc (below_alloc (Below.refl w.heap.size w) _) _)
  have HA0 := Lib.hid (show W0.heap[w.heap.size]? = some (.cells #[.int .i64 lv, .slice A1 ms.length c1, .slice A2 ps.length c2] 26) by rw [← hW0]; exact alloc_on (new_at (by simp) _) _)
  have HA1 := Lib.hid (show W0.heap[w.heap.size + 1]? = some (.cells #[.int .i64 0, .slice none 0 0, .slice none 0 0] 26) by rw [← hW0]; exact new_at (by simp) _)
  have HCC := Lib.hid (placed_calls 60 #[] enter_cancel1 shard pfCancel lv A1 c1 ms A2 c2 ps W0 (Kd.C_below hr1 HB0.out) (Kd.C_below hr2 HB0.out) hl1 hl2 (fun w0 _ => cancel1_does w0))
  have HFD := Lib.hid (show cancelC shard lv ms ps = placedC shard pfCancel lv ms ps from rfl)
  have HW0 := Lib.hid hW0; clear hW0 hr1 hr2 hl1 hl2
  generalize placedC shard pfCancel lv ms ps = r at *
  go_enter Try.func30, Try.ntmps30
  go_wp2_with fail
  rw [HW0.out]
  refine HCC.out.mono ?_
  rintro e W1 ⟨v1, v2, rfl, ho1, ho2, hb1⟩
  obtain ⟨A3, c3, rfl⟩ := Kd.R_slice ho1
  obtain ⟨A4, c4, rfl⟩ := Kd.R_slice ho2
  have HZ1 := Lib.hid (kept_on hb1 HA1.out)
  have HB1 := Lib.hid (below_then HB0.out HB0.out.size hb1)
  have HO3 := Lib.hid (Kd.R_lower ho1 HB0.out.size)
  have HO4 := Lib.hid (Kd.R_lower ho2 HB0.out.size)
  clear ho1 ho2 hb1
  obtain ⟨q0, q1, q2, q3, q4, q5, q6⟩ := three_cells HZ1.out
  go_wp2
  have e1 := blk_set HZ1.out 0 (.int .i64 r.2.1)
  have e2 := blk_set e1 1 (.slice A3 r.2.2.1.length c3)
  have e3 := blk_set e2 2 (.slice A4 r.2.2.2.length c4)
  refine ret_C (g := w.heap.size + 1) (lv := r.2.1) (s1 := .slice A3 r.2.2.1.length c3) (s2 := .slice A4 r.2.2.2.length c4) (v := .int .i64 r.1) Try.results30 rfl rfl rfl (by simpa using e3) ?_
  refine ⟨_, _, by rw [HFD.out], ?_, ?_, ?_⟩
  · rw [HFD.out]; exact Kd.R_set (Kd.R_set (Kd.R_set HO3.out HZ1.out (by decide) 0 _) e1 (by decide) 1 _) e2 (by decide) 2 _
  · rw [HFD.out]; exact Kd.R_set (Kd.R_set (Kd.R_set HO4.out HZ1.out (by decide) 0 _) e1 (by decide) 1 _) e2 (by decide) 2 _
  · exact below_set (below_set (below_set HB1.out (by omega)) (by omega)) (by omega)
end Go.Proofs.Ytdbgpakmbjhmgaa.H

/- Plan. -/
namespace Go.Proofs.Ytdbgpakmbjhmgaa.H
open Go.RowKit Go.Proofs.YtdbgpakmbjhmgaaW.PrintWords Go.Proofs.YtdbgpakmbjhmgaaW.PrintLast Go.Proofs.YtdbgpakmbjhmgaaW.PrintMore
set_option linter.unusedVariables false
set_option linter.unusedSimpArgs false

def planC (shard tt : Int) (lv : Int) (ms : List S45) (ps : List S48) : Int × Int × List S45 × List S48 := placedC shard (pfPlan (hasM ms tt) tt) lv ms ps

set_option maxHeartbeats 1000000 in
set_option maxRecDepth 100000 in
theorem plan_calls (shard tt : Int) (lv : Int) (A1 : Option Addr) (c1 : Nat) (ms : List S45) (A2 : Option Addr) (c2 : Nat) (ps : List S48) (w : World)
    (hr1 : Kd.C k45 w A1 ms.length ms) (hr2 : Kd.C k48 w A2 ps.length ps) (hl1 : ms.length * 16 ≤ 140737488355328) (hl2 : ps.length * 24 ≤ 140737488355328) :
    Calls Try.prog 26 #[.agg #[.int .i64 lv, .slice A1 ms.length c1, .slice A2 ps.length c2], .int .i64 shard, .int .i64 tt] w fun e w' => ∃ v1 v2, e = .returned (.tuple #[.agg #[.int .i64 (planC shard tt lv ms ps).2.1, v1, v2], .int .i64 (planC shard tt lv ms ps).1]) ∧ Kd.R k45 45 w' w.heap.size (fun _ => True) v1 (planC shard tt lv ms ps).2.2.1 ∧ Kd.R k48 48 w' w.heap.size (fun _ => True) v2 (planC shard tt lv ms ps).2.2.2 ∧ Below w.heap.size w w' := by
  generalize hW0 : ((w.alloc (.cells #[.int .i64 lv, .slice A1 ms.length c1, .slice A2 ps.length c2] 26)).alloc (.cells #[.int .i64 tt] 3)).alloc (.cells #[.int .i64 0, .slice none 0 0, .slice none 0 0] 26) = W0
  have HB0 := Lib.hid (show Below w.heap.size w W0 by rw [← hW0]; exact below_alloc (below_alloc (below_alloc (Below.refl w.heap.size w) _) _) _)
  have HA0 := Lib.hid (show W0.heap[w.heap.size]? = some (.cells #[.int .i64 lv, .slice A1 ms.length c1, .slice A2 ps.length c2] 26) by rw [← hW0]; exact alloc_on (alloc_on (new_at (by simp) _) _) _)
  have HA1 := Lib.hid (show W0.heap[w.heap.size + 1]? = some (.cells #[.int .i64 tt] 3) by rw [← hW0]; exact alloc_on (new_at (by simp) _) _)
  have HA2 := Lib.hid (show W0.heap[w.heap.size + 2]? = some (.cells #[.int .i64 0, .slice none 0 0, .slice none 0 0] 26) by rw [← hW0]; exact new_at (by simp) _)
  have HS0 := Lib.hid (show W0.heap.size = w.heap.size + 3 by rw [← hW0]; simp)
  have HCA := Lib.hid (at_calls A1 c1 ms tt W0 (Kd.C_below hr1 HB0.out))
  have HR1 := Lib.hid hr1
  have HR2 := Lib.hid hr2
  have HL1 := Lib.hid hl1
  have HL2 := Lib.hid hl2
  have HFD := Lib.hid (show planC shard tt lv ms ps = placedC shard (pfPlan (hasM ms tt) tt) lv ms ps from rfl)
  have HW0 := Lib.hid hW0; clear hW0 hr1 hr2 hl1 hl2
  go_enter Try.func26, Try.ntmps26
  go_wp2_with fail
  rw [HW0.out]
  refine HCA.out.mono ?_
  rintro e W1 ⟨rfl, hb1⟩
  have HB1 := Lib.hid (below_then HB0.out HB0.out.size hb1)
  have HA01 := Lib.hid (kept_on hb1 HA0.out)
  have HA11 := Lib.hid (kept_on hb1 HA1.out)
  have HA21 := Lib.hid (kept_on hb1 HA2.out)
  generalize hW2 : W1.alloc (.cells #[.bool (hasM ms tt)] 4) = W2
  have hb2 : Below W1.heap.size W1 W2 := by rw [← hW2]; exact below_alloc (Below.refl _ _) _
  have HB2 := Lib.hid (below_then HB1.out HB1.out.size hb2)
  have HA12 := Lib.hid (kept_on hb2 HA11.out)
  have HA22 := Lib.hid (kept_on hb2 HA21.out)
  have HA32 := Lib.hid (show W2.heap[W1.heap.size]? = some (.cells #[.bool (hasM ms tt)] 4) by rw [← hW2]; exact heap_alloc_new W1 _)
  have HCC := Lib.hid (placed_calls 57 #[.pointer (some ⟨W1.heap.size, 0, none⟩), .pointer (some ⟨w.heap.size + 1, 0, none⟩)] enter_plan1 shard (pfPlan (hasM ms tt) tt) lv A1 c1 ms A2 c2 ps W2 (Kd.C_below HR1.out HB2.out) (Kd.C_below HR2.out HB2.out) HL1.out HL2.out
    (fun w0 hb => plan1_does (hasM ms tt) tt W1.heap.size (w.heap.size + 1) w0 (kept_cell hb ((blk_cell HA32.out 0).trans rfl)) (kept_cell hb ((blk_cell HA12.out 0).trans rfl))))
  have HW2 := Lib.hid hW2; clear hW2 hb2
  obtain ⟨k0, k1, k2, _, _, _, _⟩ := three_cells HA01.out
  have hz1 : w.heap.size + 3 ≤ W1.heap.size := by have := hb1.size; have := HS0.out; omega
  have HZ1 := Lib.hid hz1
  clear hb1 hz1
  generalize hrr : placedC shard (pfPlan (hasM ms tt) tt) lv ms ps = r at *
  have HRR := Lib.hid hrr; clear hrr
  generalize hasM ms tt = is at *
  go_wp2_with fail
  rw [HW2.out]
  refine HCC.out.mono ?_
  rintro e W3 ⟨v1, v2, rfl, ho1, ho2, hb3⟩
  obtain ⟨A3, c3, rfl⟩ := Kd.R_slice ho1
  obtain ⟨A4, c4, rfl⟩ := Kd.R_slice ho2
  have HZ3 := Lib.hid (kept_on hb3 HA22.out)
  have HB3 := Lib.hid (below_then HB2.out HB2.out.size hb3)
  have HO3 := Lib.hid (Kd.R_lower ho1 HB2.out.size)
  have HO4 := Lib.hid (Kd.R_lower ho2 HB2.out.size)
  clear ho1 ho2 hb3 k0 k1 k2
  obtain ⟨q0, q1, q2, q3, q4, q5, q6⟩ := three_cells HZ3.out
  go_wp2
  have e1 := blk_set HZ3.out 0 (.int .i64 r.2.1)
  have e2 := blk_set e1 1 (.slice A3 r.2.2.1.length c3)
  have e3 := blk_set e2 2 (.slice A4 r.2.2.2.length c4)
  refine ret_C (g := w.heap.size + 2) (lv := r.2.1) (s1 := .slice A3 r.2.2.1.length c3) (s2 := .slice A4 r.2.2.2.length c4) (v := .int .i64 r.1) Try.results26 rfl rfl rfl (by simpa using e3) ?_
  refine ⟨_, _, by rw [HFD.out], ?_, ?_, ?_⟩
  · rw [HFD.out]; exact Kd.R_set (Kd.R_set (Kd.R_set HO3.out HZ3.out (by decide) 0 _) e1 (by decide) 1 _) e2 (by decide) 2 _
  · rw [HFD.out]; exact Kd.R_set (Kd.R_set (Kd.R_set HO4.out HZ3.out (by decide) 0 _) e1 (by decide) 1 _) e2 (by decide) 2 _
  · exact below_set (below_set (below_set HB3.out (by omega)) (by omega)) (by omega)
end Go.Proofs.Ytdbgpakmbjhmgaa.H
