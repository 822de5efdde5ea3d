/- Parts of the proof, merged: Ha, Hb, Hc, Hd, He, Hg, Hh, Hi, Hj. -/
import Derived.Test.YtadhfedbgeenlaaB
/- Two lists held against each other, element by element; strings' and records' equality. -/
namespace Go.Proofs.Ytadhfedbgeenlaa.H
open Go.RowKit Go.Proofs.YtadhfedbgeenlaaW.PrintWords Go.Proofs.YtadhfedbgeenlaaW.PrintLast Go.Proofs.YtadhfedbgeenlaaW.PrintMore
set_option linter.unusedVariables false
set_option linter.unusedSimpArgs false

theorem ret_bool {a b : Bool} (h : a = b) : Ending.returned (.bool a) = .returned (.bool b) := by rw [h]
theorem ret_int {k : IntKind} {a b : Int} (h : a = b) : Ending.returned (.int k a) = .returned (.int k b) := by rw [h]

theorem str_beq (a b : ByteArray) : (a.toList == b.toList) = true ↔ a = b := by
  rw [beq_iff_eq, ByteArray.toList_eq, ByteArray.toList_eq]
  exact ⟨fun h => ByteArray.ext (Array.toList_inj.mp h), fun h => by rw [h]⟩
theorem str_yes {a b : ByteArray} (h : a = b) : (a.toList == b.toList) = true := (str_beq a b).2 h
theorem str_no {a b : ByteArray} (h : ¬ a = b) : (a.toList == b.toList) = false := by
  rw [← Bool.not_eq_true]
  exact fun e => h ((str_beq a b).1 e)

section
variable {α : Type} {xs ys : List α} {k : Nat}
theorem take_getD (xs : List α) (d : α) (h : k < xs.length) : xs.take (k + 1) = xs.take k ++ [xs.getD k d] := by
  rw [List.take_add_one, List.getElem?_eq_getElem h]
  simp only [List.getD_eq_getElem?_getD, List.getElem?_eq_getElem h, Option.getD_some, Option.toList_some]
theorem drop_getD (xs : List α) (d : α) (h : k < xs.length) : xs.drop k = xs.getD k d :: xs.drop (k + 1) := by
  rw [List.drop_eq_getElem_cons h]
  simp only [List.getD_eq_getElem?_getD, List.getElem?_eq_getElem h, Option.getD_some]
theorem take_next (d : α) (he : xs.take k = ys.take k) (hx : k < xs.length) (hy : k < ys.length) (hxy : xs.getD k d = ys.getD k d) : xs.take (k + 1) = ys.take (k + 1) := by
  rw [take_getD xs d hx, take_getD ys d hy, he, hxy]
theorem ne_at (d : α) (hne : ¬ xs.getD k d = ys.getD k d) : ¬ xs = ys := fun h => hne (by rw [h])
theorem ne_len (h : ¬ xs.length = ys.length) : ¬ xs = ys := fun e => h (by rw [e])
theorem eq_of_take (hl : xs.length = ys.length) (he : xs.take xs.length = ys.take xs.length) : xs = ys := by
  rw [List.take_length, hl, List.take_length] at he
  exact he
end

instance : DecidableEq S60 := fun a b =>
  if h : a.f0 = b.f0 ∧ a.f1 = b.f1 then isTrue (by cases a; cases b; simp only at h; rw [h.1, h.2]) else isFalse (fun e => h (by rw [e]; exact ⟨rfl, rfl⟩))
instance : DecidableEq S54 := fun a b =>
  if h : a.f0 = b.f0 ∧ a.f1 = b.f1 ∧ a.f2 = b.f2 ∧ a.f3 = b.f3 ∧ a.f4 = b.f4 ∧ a.f5 = b.f5 then isTrue (by cases a; cases b; simp only at h; rw [h.1, h.2.1, h.2.2.1, h.2.2.2.1, h.2.2.2.2.1, h.2.2.2.2.2]) else isFalse (fun e => h (by rw [e]; exact ⟨rfl, rfl, rfl, rfl, rfl, rfl⟩))
instance : DecidableEq S34 := fun a b =>
  if h : a.f0 = b.f0 ∧ a.f1 = b.f1 ∧ a.f2 = b.f2 ∧ a.f3 = b.f3 then isTrue (by cases a; cases b; simp only at h; rw [h.1, h.2.1, h.2.2.1, h.2.2.2]) else isFalse (fun e => h (by rw [e]; exact ⟨rfl, rfl, rfl, rfl⟩))
theorem field_eq {x y : S60} (h0 : x.f0 = y.f0) (h1 : x.f1 = y.f1) : x = y := by cases x; cases y; simp only at *; rw [h0, h1]

end Go.Proofs.Ytadhfedbgeenlaa.H

/- Two lists of fields, or strings, are the same. -/
namespace Go.Proofs.Ytadhfedbgeenlaa.H
open Go.RowKit Go.Proofs.YtadhfedbgeenlaaW.PrintWords Go.Proofs.YtadhfedbgeenlaaW.PrintLast Go.Proofs.YtadhfedbgeenlaaW.PrintMore
set_option linter.unusedVariables false
set_option linter.unusedSimpArgs false

set_option maxHeartbeats 1000000 in
set_option maxRecDepth 100000 in
theorem fields2_calls (A B : Option Addr) (ca cb : Nat) (xs ys : List S60) (w : World) (hx : Kd.C k60 w A xs.length xs) (hy : Kd.C k60 w B ys.length ys) :
    Calls Try.prog 54 #[.slice A xs.length ca, .slice B ys.length cb] w fun e w' => e = .returned (.bool (decide (xs = ys))) ∧ Below w.heap.size w w' := by
  have hm1 : xs.length ≤ 9223372036854775807 := hx.2.1
  have hm2 : ys.length ≤ 9223372036854775807 := hy.2.1
  have HX := Lib.hid (show ∃ r, r = decide (xs = ys) from ⟨_, rfl⟩)
  obtain ⟨r, hr⟩ := HX.out
  have HR := Lib.hid hr
  rw [← hr]
  clear HX hr
  have HRX := Lib.hid hx; clear hx
  have HRY := Lib.hid hy; clear hy
  go_enter Try.func54, Try.ntmps54
  by_cases d2 : xs.length = ys.length
  rotate_left
  · have d2a : ((xs.length : Int) != ys.length) = true := by simp; omega
    have HQ := Lib.hid (HR.out.trans (decide_eq_false (ne_len d2)))
    clear d2
    go_wp2
    go_ret
    exact ⟨ret_bool HQ.out.symm, Below.refl _ _⟩
  have d2a : ((xs.length : Int) != ys.length) = false := by simp; omega
  have D2 := Lib.hid d2; clear d2
  go_wp2
  go_loopw [5] (fun v W => ∃ k : Nat, k ≤ xs.length ∧ v = .int .i64 k ∧ Aside0 (xs.take k = ys.take k) ∧ Aside0 (Below w.heap.size w W)) (fun v _ => xs.length - (intOf v).toNat)
  case atStart => exact ⟨0, Nat.zero_le _, rfl, ⟨rfl⟩, ⟨Below.refl _ _⟩⟩
  case round =>
    obtain ⟨k, hk, rfl, HE, HB⟩ := hrel
    by_cases hlt : k < xs.length
    rotate_left
    · obtain rfl : k = xs.length := by omega
      have HQ := Lib.hid (HR.out.trans (decide_eq_true (eq_of_take D2.out HE.out)))
      clear hlt
      go_wp2
      go_ret
      exact ⟨ret_bool HQ.out.symm, HB.out⟩
    obtain ⟨ad, hA, h0, h1⟩ := at_T60 (Kd.C_below HRX.out HB.out) k (by omega) (by omega)
    obtain ⟨ad', hA', h0', h1'⟩ := at_T60 (Kd.C_below HRY.out HB.out) k (by omega) (by have := D2.out; omega)
    subst hA; subst hA'
    rw [Int.toNat_natCast] at h0 h1 h0' h1'
    have b1 : (0 : Int) ≤ k := by omega
    have b2 : (k : Int) < xs.length := by omega
    have b3 : (k : Int) < ys.length := by have := D2.out; omega
    have HNX := Lib.hid (fun h => take_next (k := k) z60 HE.out hlt (by have := D2.out; omega) (show rd_T60 xs k = rd_T60 ys k from h))
    have HNE := Lib.hid (fun h => ne_at (k := k) z60 (show ¬ rd_T60 xs k = rd_T60 ys k from h))
    generalize rd_T60 xs k = x at *
    generalize rd_T60 ys k = y at *
    clear HE
    by_cases dd : x.f0 = y.f0
    rotate_left
    · have q := (show (x.f0 == y.f0) = false by simpa using dd)
      have HQ := Lib.hid (HR.out.trans (decide_eq_false (HNE.out (fun e => dd (by rw [e])))))
      clear dd
      go_wp2_with fail
      go_quiet (fail)
      go_wp2
      go_ret
      exact ⟨ret_bool HQ.out.symm, pw_below_drewN HB.out _⟩
    have q0 : (x.f0 == y.f0) = true := by simpa using dd
    have E0 := Lib.hid dd; clear dd
    by_cases dd : x.f1 = y.f1
    rotate_left
    · have q := str_no dd
      have HQ := Lib.hid (HR.out.trans (decide_eq_false (HNE.out (fun e => dd (by rw [e])))))
      clear dd
      go_wp2_with fail
      go_quiet (fail)
      go_wp2
      go_ret
      exact ⟨ret_bool HQ.out.symm, pw_below_drewN HB.out _⟩
    have q1 := str_yes dd
    have HQ := Lib.hid (HNX.out (field_eq E0.out dd)); clear dd
    clear HNX HNE
    go_wp2_with fail
    go_quiet (fail)
    go_wp2
    go_roundw
    case rel => exact ⟨k + 1, by omega, by go_num, ⟨HQ.out⟩, ⟨pw_below_drewN HB.out _⟩⟩
    case measure => simp [intOf]; omega

set_option maxHeartbeats 1000000 in
set_option maxRecDepth 100000 in
theorem fieldsEq_calls (A B : Option Addr) (ca cb : Nat) (xs ys : List S60) (w : World) (hx : Kd.C k60 w A xs.length xs) (hy : Kd.C k60 w B ys.length ys) :
    Calls Try.prog 79 #[.slice A xs.length ca, .slice B ys.length cb] w fun e w' => e = .returned (.bool (decide (xs = ys))) ∧ Below w.heap.size w w' := by
  have hm1 : xs.length ≤ 9223372036854775807 := hx.2.1
  have hm2 : ys.length ≤ 9223372036854775807 := hy.2.1
  have HX := Lib.hid (show ∃ r, r = decide (xs = ys) from ⟨_, rfl⟩)
  obtain ⟨r, hr⟩ := HX.out
  have HR := Lib.hid hr
  rw [← hr]
  clear HX hr
  have HRX := Lib.hid hx; clear hx
  have HRY := Lib.hid hy; clear hy
  go_enter Try.func79, Try.ntmps79
  by_cases d2 : xs.length = ys.length
  rotate_left
  · have d2a : ((xs.length : Int) != ys.length) = true := by simp; omega
    have HQ := Lib.hid (HR.out.trans (decide_eq_false (ne_len d2)))
    clear d2
    go_wp2
    go_ret
    exact ⟨ret_bool HQ.out.symm, Below.refl _ _⟩
  have d2a : ((xs.length : Int) != ys.length) = false := by simp; omega
  have D2 := Lib.hid d2; clear d2
  go_wp2
  go_loopw [13] (fun v W => ∃ k : Nat, k ≤ xs.length ∧ v = .int .i64 k ∧ Aside0 (xs.take k = ys.take k) ∧ Aside0 (Below w.heap.size w W)) (fun v _ => xs.length - (intOf v).toNat)
  case atStart => exact ⟨0, Nat.zero_le _, rfl, ⟨rfl⟩, ⟨Below.refl _ _⟩⟩
  case round =>
    obtain ⟨k, hk, rfl, HE, HB⟩ := hrel
    by_cases hlt : k < xs.length
    rotate_left
    · obtain rfl : k = xs.length := by omega
      have HQ := Lib.hid (HR.out.trans (decide_eq_true (eq_of_take D2.out HE.out)))
      clear hlt
      go_wp2
      go_ret
      exact ⟨ret_bool HQ.out.symm, HB.out⟩
    obtain ⟨ad, hA, h0, h1⟩ := at_T60 (Kd.C_below HRX.out HB.out) k (by omega) (by omega)
    obtain ⟨ad', hA', h0', h1'⟩ := at_T60 (Kd.C_below HRY.out HB.out) k (by omega) (by have := D2.out; omega)
    subst hA; subst hA'
    rw [Int.toNat_natCast] at h0 h1 h0' h1'
    have b1 : (0 : Int) ≤ k := by omega
    have b2 : (k : Int) < xs.length := by omega
    have b3 : (k : Int) < ys.length := by have := D2.out; omega
    have HNX := Lib.hid (fun h => take_next (k := k) z60 HE.out hlt (by have := D2.out; omega) (show rd_T60 xs k = rd_T60 ys k from h))
    have HNE := Lib.hid (fun h => ne_at (k := k) z60 (show ¬ rd_T60 xs k = rd_T60 ys k from h))
    generalize rd_T60 xs k = x at *
    generalize rd_T60 ys k = y at *
    clear HE
    by_cases dd : x.f0 = y.f0
    rotate_left
    · have q := (show (x.f0 == y.f0) = false by simpa using dd)
      have HQ := Lib.hid (HR.out.trans (decide_eq_false (HNE.out (fun e => dd (by rw [e])))))
      clear dd
      go_wp2_with fail
      go_quiet (fail)
      go_wp2
      go_ret
      exact ⟨ret_bool HQ.out.symm, pw_below_drewN HB.out _⟩
    have q0 : (x.f0 == y.f0) = true := by simpa using dd
    have E0 := Lib.hid dd; clear dd
    by_cases dd : x.f1 = y.f1
    rotate_left
    · have q := str_no dd
      have HQ := Lib.hid (HR.out.trans (decide_eq_false (HNE.out (fun e => dd (by rw [e])))))
      clear dd
      go_wp2_with fail
      go_quiet (fail)
      go_wp2
      go_ret
      exact ⟨ret_bool HQ.out.symm, pw_below_drewN HB.out _⟩
    have q1 := str_yes dd
    have HQ := Lib.hid (HNX.out (field_eq E0.out dd)); clear dd
    clear HNX HNE
    go_wp2_with fail
    go_quiet (fail)
    go_wp2
    go_roundw
    case rel => exact ⟨k + 1, by omega, by go_num, ⟨HQ.out⟩, ⟨pw_below_drewN HB.out _⟩⟩
    case measure => simp [intOf]; omega

set_option maxHeartbeats 1000000 in
set_option maxRecDepth 100000 in
theorem stringsEq_calls (A B : Option Addr) (ca cb : Nat) (xs ys : List ByteArray) (w : World) (hx : Kd.string.C w A xs.length xs) (hy : Kd.string.C w B ys.length ys) :
    Calls Try.prog 78 #[.slice A xs.length ca, .slice B ys.length cb] w fun e w' => e = .returned (.bool (decide (xs = ys))) ∧ Below w.heap.size w w' := by
  have hm1 : xs.length ≤ 9223372036854775807 := hx.2.1
  have hm2 : ys.length ≤ 9223372036854775807 := hy.2.1
  have HX := Lib.hid (show ∃ r, r = decide (xs = ys) from ⟨_, rfl⟩)
  obtain ⟨r, hr⟩ := HX.out
  have HR := Lib.hid hr
  rw [← hr]
  clear HX hr
  have HRX := Lib.hid hx; clear hx
  have HRY := Lib.hid hy; clear hy
  go_enter Try.func78, Try.ntmps78
  by_cases d2 : xs.length = ys.length
  rotate_left
  · have d2a : ((xs.length : Int) != ys.length) = true := by simp; omega
    have HQ := Lib.hid (HR.out.trans (decide_eq_false (ne_len d2)))
    clear d2
    go_wp2
    go_ret
    exact ⟨ret_bool HQ.out.symm, Below.refl _ _⟩
  have d2a : ((xs.length : Int) != ys.length) = false := by simp; omega
  have D2 := Lib.hid d2; clear d2
  go_wp2
  go_loopw [13] (fun v W => ∃ k : Nat, k ≤ xs.length ∧ v = .int .i64 k ∧ Aside0 (xs.take k = ys.take k) ∧ Aside0 (Below w.heap.size w W)) (fun v _ => xs.length - (intOf v).toNat)
  case atStart => exact ⟨0, Nat.zero_le _, rfl, ⟨rfl⟩, ⟨Below.refl _ _⟩⟩
  case round =>
    obtain ⟨k, hk, rfl, HE, HB⟩ := hrel
    by_cases hlt : k < xs.length
    rotate_left
    · obtain rfl : k = xs.length := by omega
      have HQ := Lib.hid (HR.out.trans (decide_eq_true (eq_of_take D2.out HE.out)))
      clear hlt
      go_wp2
      go_ret
      exact ⟨ret_bool HQ.out.symm, HB.out⟩
    obtain ⟨ad, hA, h0⟩ := Kd.at_string (Kd.C_below HRX.out HB.out) k (by omega) (by omega)
    obtain ⟨ad', hA', h0'⟩ := Kd.at_string (Kd.C_below HRY.out HB.out) k (by omega) (by have := D2.out; omega)
    subst hA; subst hA'
    rw [Int.toNat_natCast] at h0 h0'
    have b1 : (0 : Int) ≤ k := by omega
    have b2 : (k : Int) < xs.length := by omega
    have b3 : (k : Int) < ys.length := by have := D2.out; omega
    have HNX := Lib.hid (fun h => take_next (k := k) ByteArray.empty HE.out hlt (by have := D2.out; omega) (show rdOf ByteArray.empty xs k = rdOf ByteArray.empty ys k from h))
    have HNE := Lib.hid (fun h => ne_at (k := k) ByteArray.empty (show ¬ rdOf ByteArray.empty xs k = rdOf ByteArray.empty ys k from h))
    generalize rdOf ByteArray.empty xs k = x at *
    generalize rdOf ByteArray.empty ys k = y at *
    clear HE
    by_cases dd : x = y
    rotate_left
    · have q := str_no dd
      have HQ := Lib.hid (HR.out.trans (decide_eq_false (HNE.out (fun e => dd e))))
      clear dd
      go_wp2_with fail
      go_quiet (fail)
      go_wp2
      go_ret
      exact ⟨ret_bool HQ.out.symm, pw_below_drewN HB.out _⟩
    have q1 := str_yes dd
    have HQ := Lib.hid (HNX.out dd); clear dd
    clear HNX HNE
    go_wp2_with fail
    go_quiet (fail)
    go_wp2
    go_roundw
    case rel => exact ⟨k + 1, by omega, by go_num, ⟨HQ.out⟩, ⟨pw_below_drewN HB.out _⟩⟩
    case measure => simp [intOf]; omega

end Go.Proofs.Ytadhfedbgeenlaa.H

/- What stays in memory; two records, two replies are the same. -/
namespace Go.Proofs.Ytadhfedbgeenlaa.H
open Go.RowKit Go.Proofs.YtadhfedbgeenlaaW.PrintWords Go.Proofs.YtadhfedbgeenlaaW.PrintLast Go.Proofs.YtadhfedbgeenlaaW.PrintMore
set_option linter.unusedVariables false
set_option linter.unusedSimpArgs false

theorem kept_cell {W w2 : World} {a : Addr} {v : Value} (hb : Below W.heap.size W w2) (h : W.cell? a = some v) : w2.cell? a = some v := (hb.cell (World.block_lt_of_cell? W a h)).trans h
theorem kept_on {W w2 : World} {g : Nat} {o : Obj} (hb : Below W.heap.size W w2) (h : W.heap[g]? = some o) : w2.heap[g]? = some o :=
  (hb.block g (blk_lt h)).trans h
theorem new_at {W : World} {n : Nat} (h : W.heap.size = n) (o : Obj) : (W.alloc o).heap[n]? = some o := by rw [← h]; exact heap_alloc_new W o
theorem alloc_on {W : World} {g : Nat} {o : Obj} (h : W.heap[g]? = some o) (o' : Obj) : (W.alloc o').heap[g]? = some o := kept_on (below_alloc (Below.refl _ _) o') h
theorem two_cells {w : World} {x : Nat} {v0 v1 : Value} {t : Nat} (h : w.heap[x]? = some (.cells #[v0, v1] t (0, 0))) :
    w.cell? ⟨x, 0, none⟩ = some v0 ∧ w.cell? ⟨x, 1, none⟩ = some v1 ∧ w.frozen? ⟨x, 0, none⟩ = false ∧ x < w.heap.size :=
  ⟨(blk_cell h 0).trans rfl, (blk_cell h 1).trans rfl, blk_frozen h _, blk_lt h⟩
theorem three_cells {w : World} {x : Nat} {v0 v1 v2 : Value} {t : Nat} (h : w.heap[x]? = some (.cells #[v0, v1, v2] t (0, 0))) :
    w.cell? ⟨x, 0, none⟩ = some v0 ∧ w.cell? ⟨x, 1, none⟩ = some v1 ∧ w.cell? ⟨x, 2, none⟩ = some v2 ∧ w.frozen? ⟨x, 0, none⟩ = false ∧ x < w.heap.size :=
  ⟨(blk_cell h 0).trans rfl, (blk_cell h 1).trans rfl, (blk_cell h 2).trans rfl, blk_frozen h _, blk_lt h⟩
theorem four_cells {w : World} {x : Nat} {v0 v1 v2 v3 : Value} {t : Nat} (h : w.heap[x]? = some (.cells #[v0, v1, v2, v3] t (0, 0))) :
    w.cell? ⟨x, 0, none⟩ = some v0 ∧ w.cell? ⟨x, 1, none⟩ = some v1 ∧ w.cell? ⟨x, 2, none⟩ = some v2 ∧ w.cell? ⟨x, 3, none⟩ = some v3 ∧ w.frozen? ⟨x, 0, none⟩ = false ∧ x < w.heap.size :=
  ⟨(blk_cell h 0).trans rfl, (blk_cell h 1).trans rfl, (blk_cell h 2).trans rfl, (blk_cell h 3).trans rfl, blk_frozen h _, blk_lt h⟩
theorem five_cells {w : World} {x : Nat} {v0 v1 v2 v3 v4 : Value} {t : Nat} (h : w.heap[x]? = some (.cells #[v0, v1, v2, v3, v4] t (0, 0))) :
    w.cell? ⟨x, 0, none⟩ = some v0 ∧ w.cell? ⟨x, 1, none⟩ = some v1 ∧ w.cell? ⟨x, 2, none⟩ = some v2 ∧ w.cell? ⟨x, 3, none⟩ = some v3 ∧ w.cell? ⟨x, 4, none⟩ = some v4 ∧ w.frozen? ⟨x, 0, none⟩ = false ∧ x < w.heap.size :=
  ⟨(blk_cell h 0).trans rfl, (blk_cell h 1).trans rfl, (blk_cell h 2).trans rfl, (blk_cell h 3).trans rfl, (blk_cell h 4).trans rfl, blk_frozen h _, blk_lt h⟩
theorem six_cells {w : World} {x : Nat} {v0 v1 v2 v3 v4 v5 : Value} {t : Nat} (h : w.heap[x]? = some (.cells #[v0, v1, v2, v3, v4, v5] t (0, 0))) :
    w.cell? ⟨x, 0, none⟩ = some v0 ∧ w.cell? ⟨x, 1, none⟩ = some v1 ∧ w.cell? ⟨x, 2, none⟩ = some v2 ∧ w.cell? ⟨x, 3, none⟩ = some v3 ∧ w.cell? ⟨x, 4, none⟩ = some v4 ∧ w.cell? ⟨x, 5, none⟩ = some v5 ∧ w.frozen? ⟨x, 0, none⟩ = false ∧ x < w.heap.size :=
  ⟨(blk_cell h 0).trans rfl, (blk_cell h 1).trans rfl, (blk_cell h 2).trans rfl, (blk_cell h 3).trans rfl, (blk_cell h 4).trans rfl, (blk_cell h 5).trans rfl, blk_frozen h _, blk_lt h⟩
theorem seven_cells {w : World} {x : Nat} {v0 v1 v2 v3 v4 v5 v6 : Value} {t : Nat} (h : w.heap[x]? = some (.cells #[v0, v1, v2, v3, v4, v5, v6] t (0, 0))) :
    w.cell? ⟨x, 0, none⟩ = some v0 ∧ w.cell? ⟨x, 1, none⟩ = some v1 ∧ w.cell? ⟨x, 2, none⟩ = some v2 ∧ w.cell? ⟨x, 3, none⟩ = some v3 ∧ w.cell? ⟨x, 4, none⟩ = some v4 ∧ w.cell? ⟨x, 5, none⟩ = some v5 ∧ w.cell? ⟨x, 6, none⟩ = some v6 ∧ w.frozen? ⟨x, 0, none⟩ = false ∧ x < w.heap.size :=
  ⟨(blk_cell h 0).trans rfl, (blk_cell h 1).trans rfl, (blk_cell h 2).trans rfl, (blk_cell h 3).trans rfl, (blk_cell h 4).trans rfl, (blk_cell h 5).trans rfl, (blk_cell h 6).trans rfl, blk_frozen h _, blk_lt h⟩
theorem twelve_cells {w : World} {x : Nat} {v0 v1 v2 v3 v4 v5 v6 v7 v8 v9 v10 v11 : Value} {t : Nat} (h : w.heap[x]? = some (.cells #[v0, v1, v2, v3, v4, v5, v6, v7, v8, v9, v10, v11] t (0, 0))) :
    w.cell? ⟨x, 0, none⟩ = some v0 ∧ w.cell? ⟨x, 1, none⟩ = some v1 ∧ w.cell? ⟨x, 2, none⟩ = some v2 ∧ w.cell? ⟨x, 3, none⟩ = some v3 ∧ w.cell? ⟨x, 4, none⟩ = some v4 ∧ w.cell? ⟨x, 5, none⟩ = some v5 ∧ w.cell? ⟨x, 6, none⟩ = some v6 ∧ w.cell? ⟨x, 7, none⟩ = some v7 ∧ w.cell? ⟨x, 8, none⟩ = some v8 ∧ w.cell? ⟨x, 9, none⟩ = some v9 ∧ w.cell? ⟨x, 10, none⟩ = some v10 ∧ w.cell? ⟨x, 11, none⟩ = some v11 ∧ w.frozen? ⟨x, 0, none⟩ = false ∧ x < w.heap.size :=
  ⟨(blk_cell h 0).trans rfl, (blk_cell h 1).trans rfl, (blk_cell h 2).trans rfl, (blk_cell h 3).trans rfl, (blk_cell h 4).trans rfl, (blk_cell h 5).trans rfl, (blk_cell h 6).trans rfl, (blk_cell h 7).trans rfl, (blk_cell h 8).trans rfl, (blk_cell h 9).trans rfl, (blk_cell h 10).trans rfl, (blk_cell h 11).trans rfl, blk_frozen h _, blk_lt h⟩

set_option maxHeartbeats 1000000 in
set_option maxRecDepth 100000 in
theorem rec2_calls (x y : S54) (A B : Option Addr) (ca cb : Nat) (w : World) (hx : Kd.C k60 w A x.f5.length x.f5) (hy : Kd.C k60 w B y.f5.length y.f5) :
    Calls Try.prog 29 #[.agg #[.string x.f0, .string x.f1, .int .i64 x.f2, .int .i64 x.f3, .string x.f4, .slice A x.f5.length ca], .agg #[.string y.f0, .string y.f1, .int .i64 y.f2, .int .i64 y.f3, .string y.f4, .slice B y.f5.length cb]] w fun e w' => e = .returned (.bool (decide (x = y))) ∧ Below w.heap.size w w' := by
  have hm1 : x.f5.length ≤ 9223372036854775807 := hx.2.1
  have hm2 : y.f5.length ≤ 9223372036854775807 := hy.2.1
  have HX := Lib.hid (show ∃ r, r = decide (x = y) from ⟨_, rfl⟩)
  obtain ⟨r, hr⟩ := HX.out
  have HR := Lib.hid hr
  rw [← hr]
  clear HX hr
  have HRX := Lib.hid hx; clear hx
  have HRY := Lib.hid hy; clear hy
  generalize hW0 : (w.alloc (.cells #[.string x.f0, .string x.f1, .int .i64 x.f2, .int .i64 x.f3, .string x.f4, .slice A x.f5.length ca] 54)).alloc (.cells #[.string y.f0, .string y.f1, .int .i64 y.f2, .int .i64 y.f3, .string y.f4, .slice B y.f5.length cb] 54) = W0
  have HB0 := Lib.hid (show Below w.heap.size w W0 by rw [← hW0]; exact below_alloc (below_alloc (Below.refl _ _) _) _)
  have HK0 := Lib.hid (show W0.heap[w.heap.size]? = some (.cells #[.string x.f0, .string x.f1, .int .i64 x.f2, .int .i64 x.f3, .string x.f4, .slice A x.f5.length ca] 54 (0, 0)) by rw [← hW0]; exact alloc_on (new_at rfl _) _)
  have HK1 := Lib.hid (show W0.heap[w.heap.size + 1]? = some (.cells #[.string y.f0, .string y.f1, .int .i64 y.f2, .int .i64 y.f3, .string y.f4, .slice B y.f5.length cb] 54 (0, 0)) by rw [← hW0]; exact new_at (by simp) _)
  have HW0 := Lib.hid hW0; clear hW0
  obtain ⟨k0, k1, k2, k3, k4, k5, _, kl⟩ := six_cells HK0.out
  obtain ⟨j0, j1, j2, j3, j4, j5, _, jl⟩ := six_cells HK1.out
  go_enter Try.func29, Try.ntmps29
  go_upto_region 1 with (fail)
  rw [HW0.out]
  by_cases dd : x.f0 = y.f0
  rotate_left
  · have q := str_no dd
    have HQ := Lib.hid (HR.out.trans (decide_eq_false (fun e => dd (by rw [e]))))
    clear dd
    go_wp2
    go_ret
    exact ⟨ret_bool HQ.out.symm, HB0.out⟩
  have q0 := str_yes dd
  have E0 := Lib.hid dd; clear dd
  by_cases dd : x.f1 = y.f1
  rotate_left
  · have q := str_no dd
    have HQ := Lib.hid (HR.out.trans (decide_eq_false (fun e => dd (by rw [e]))))
    clear dd
    go_wp2
    go_ret
    exact ⟨ret_bool HQ.out.symm, HB0.out⟩
  have q1 := str_yes dd
  have E1 := Lib.hid dd; clear dd
  by_cases dd : x.f2 = y.f2
  rotate_left
  · have q := (show (x.f2 == y.f2) = false by simpa using dd)
    have HQ := Lib.hid (HR.out.trans (decide_eq_false (fun e => dd (by rw [e]))))
    clear dd
    go_wp2
    go_ret
    exact ⟨ret_bool HQ.out.symm, HB0.out⟩
  have q2 := (show (x.f2 == y.f2) = true by simpa using dd)
  have E2 := Lib.hid dd; clear dd
  by_cases dd : x.f3 = y.f3
  rotate_left
  · have q := (show (x.f3 == y.f3) = false by simpa using dd)
    have HQ := Lib.hid (HR.out.trans (decide_eq_false (fun e => dd (by rw [e]))))
    clear dd
    go_wp2
    go_ret
    exact ⟨ret_bool HQ.out.symm, HB0.out⟩
  have q3 := (show (x.f3 == y.f3) = true by simpa using dd)
  have E3 := Lib.hid dd; clear dd
  by_cases dd : x.f4 = y.f4
  rotate_left
  · have q := str_no dd
    have HQ := Lib.hid (HR.out.trans (decide_eq_false (fun e => dd (by rw [e]))))
    clear dd
    go_wp2
    go_ret
    exact ⟨ret_bool HQ.out.symm, HB0.out⟩
  have q4 := str_yes dd
  have E4 := Lib.hid dd; clear dd
  have HC := Lib.hid (fields2_calls A B ca cb x.f5 y.f5 _ (Kd.C_below HRX.out HB0.out) (Kd.C_below HRY.out HB0.out))
  by_cases dd : x.f5 = y.f5
  rotate_left
  · have HQ := Lib.hid (HR.out.trans (decide_eq_false (fun e => dd (by rw [e]))))
    rw [decide_eq_false dd] at HC
    clear dd
    go_wp2_with fail
    refine HC.out.mono ?_
    rintro e w1 ⟨rfl, hb⟩
    go_wp2
    go_ret
    exact ⟨ret_bool HQ.out.symm, below_then HB0.out HB0.out.size hb⟩
  have HQ := Lib.hid (HR.out.trans (decide_eq_true (show x = y by
    have := dd
    have e0 := E0.out; have e1 := E1.out; have e2 := E2.out; have e3 := E3.out; have e4 := E4.out
    cases x; cases y; simp only at *; subst e0; subst e1; subst e2; subst e3; subst e4; subst this; rfl)))
  rw [decide_eq_true dd] at HC
  clear dd
  go_wp2_with fail
  refine HC.out.mono ?_
  rintro e w1 ⟨rfl, hb⟩
  go_wp2
  go_ret
  exact ⟨ret_bool HQ.out.symm, below_then HB0.out HB0.out.size hb⟩

set_option maxHeartbeats 1000000 in
set_option maxRecDepth 100000 in
theorem reply_calls (x y : S34) (A B : Option Addr) (ca cb : Nat) (w : World) (hx : Kd.string.C w A x.f3.length x.f3) (hy : Kd.string.C w B y.f3.length y.f3) :
    Calls Try.prog 70 #[.agg #[.int .i64 x.f0, .int .i64 x.f1, .string x.f2, .slice A x.f3.length ca], .agg #[.int .i64 y.f0, .int .i64 y.f1, .string y.f2, .slice B y.f3.length cb]] w fun e w' => e = .returned (.bool (decide (x = y))) ∧ Below w.heap.size w w' := by
  have hm1 : x.f3.length ≤ 9223372036854775807 := hx.2.1
  have hm2 : y.f3.length ≤ 9223372036854775807 := hy.2.1
  have HX := Lib.hid (show ∃ r, r = decide (x = y) from ⟨_, rfl⟩)
  obtain ⟨r, hr⟩ := HX.out
  have HR := Lib.hid hr
  rw [← hr]
  clear HX hr
  have HRX := Lib.hid hx; clear hx
  have HRY := Lib.hid hy; clear hy
  generalize hW0 : (w.alloc (.cells #[.int .i64 x.f0, .int .i64 x.f1, .string x.f2, .slice A x.f3.length ca] 34)).alloc (.cells #[.int .i64 y.f0, .int .i64 y.f1, .string y.f2, .slice B y.f3.length cb] 34) = W0
  have HB0 := Lib.hid (show Below w.heap.size w W0 by rw [← hW0]; exact below_alloc (below_alloc (Below.refl _ _) _) _)
  have HK0 := Lib.hid (show W0.heap[w.heap.size]? = some (.cells #[.int .i64 x.f0, .int .i64 x.f1, .string x.f2, .slice A x.f3.length ca] 34 (0, 0)) by rw [← hW0]; exact alloc_on (new_at rfl _) _)
  have HK1 := Lib.hid (show W0.heap[w.heap.size + 1]? = some (.cells #[.int .i64 y.f0, .int .i64 y.f1, .string y.f2, .slice B y.f3.length cb] 34 (0, 0)) by rw [← hW0]; exact new_at (by simp) _)
  have HW0 := Lib.hid hW0; clear hW0
  obtain ⟨k0, k1, k2, k3, _, kl⟩ := four_cells HK0.out
  obtain ⟨j0, j1, j2, j3, _, jl⟩ := four_cells HK1.out
  go_enter Try.func70, Try.ntmps70
  go_upto_region 1 with (fail)
  rw [HW0.out]
  by_cases dd : x.f0 = y.f0
  rotate_left
  · have q := (show (x.f0 == y.f0) = false by simpa using dd)
    have HQ := Lib.hid (HR.out.trans (decide_eq_false (fun e => dd (by rw [e]))))
    clear dd
    go_wp2
    go_ret
    exact ⟨ret_bool HQ.out.symm, HB0.out⟩
  have q0 := (show (x.f0 == y.f0) = true by simpa using dd)
  have E0 := Lib.hid dd; clear dd
  by_cases dd : x.f1 = y.f1
  rotate_left
  · have q := (show (x.f1 == y.f1) = false by simpa using dd)
    have HQ := Lib.hid (HR.out.trans (decide_eq_false (fun e => dd (by rw [e]))))
    clear dd
    go_wp2
    go_ret
    exact ⟨ret_bool HQ.out.symm, HB0.out⟩
  have q1 := (show (x.f1 == y.f1) = true by simpa using dd)
  have E1 := Lib.hid dd; clear dd
  by_cases dd : x.f2 = y.f2
  rotate_left
  · have q := str_no dd
    have HQ := Lib.hid (HR.out.trans (decide_eq_false (fun e => dd (by rw [e]))))
    clear dd
    go_wp2
    go_ret
    exact ⟨ret_bool HQ.out.symm, HB0.out⟩
  have q2 := str_yes dd
  have E2 := Lib.hid dd; clear dd
  have HC := Lib.hid (stringsEq_calls A B ca cb x.f3 y.f3 _ (Kd.C_below HRX.out HB0.out) (Kd.C_below HRY.out HB0.out))
  by_cases dd : x.f3 = y.f3
  rotate_left
  · have HQ := Lib.hid (HR.out.trans (decide_eq_false (fun e => dd (by rw [e]))))
    rw [decide_eq_false dd] at HC
    clear dd
    go_wp2_with fail
    refine HC.out.mono ?_
    rintro e w1 ⟨rfl, hb⟩
    go_wp2
    go_ret
    exact ⟨ret_bool HQ.out.symm, below_then HB0.out HB0.out.size hb⟩
  have HQ := Lib.hid (HR.out.trans (decide_eq_true (show x = y by
    have := dd
    have e0 := E0.out; have e1 := E1.out; have e2 := E2.out
    cases x; cases y; simp only at *; subst e0; subst e1; subst e2; subst this; rfl)))
  rw [decide_eq_true dd] at HC
  clear dd
  go_wp2_with fail
  refine HC.out.mono ?_
  rintro e w1 ⟨rfl, hb⟩
  go_wp2
  go_ret
  exact ⟨ret_bool HQ.out.symm, below_then HB0.out HB0.out.size hb⟩

end Go.Proofs.Ytadhfedbgeenlaa.H

/- record.Same. -/
namespace Go.Proofs.Ytadhfedbgeenlaa.H
open Go.RowKit Go.Proofs.YtadhfedbgeenlaaW.PrintWords Go.Proofs.YtadhfedbgeenlaaW.PrintLast Go.Proofs.YtadhfedbgeenlaaW.PrintMore
set_option linter.unusedVariables false
set_option linter.unusedSimpArgs false

set_option maxHeartbeats 1000000 in
set_option maxRecDepth 100000 in
theorem rec_calls (x y : S54) (A B : Option Addr) (ca cb : Nat) (w : World) (hx : Kd.C k60 w A x.f5.length x.f5) (hy : Kd.C k60 w B y.f5.length y.f5) :
    Calls Try.prog 72 #[.agg #[.string x.f0, .string x.f1, .int .i64 x.f2, .int .i64 x.f3, .string x.f4, .slice A x.f5.length ca], .agg #[.string y.f0, .string y.f1, .int .i64 y.f2, .int .i64 y.f3, .string y.f4, .slice B y.f5.length cb]] w fun e w' => e = .returned (.bool (decide (x = y))) ∧ Below w.heap.size w w' := by
  have hm1 : x.f5.length ≤ 9223372036854775807 := hx.2.1
  have hm2 : y.f5.length ≤ 9223372036854775807 := hy.2.1
  have HX := Lib.hid (show ∃ r, r = decide (x = y) from ⟨_, rfl⟩)
  obtain ⟨r, hr⟩ := HX.out
  have HR := Lib.hid hr
  rw [← hr]
  clear HX hr
  have HRX := Lib.hid hx; clear hx
  have HRY := Lib.hid hy; clear hy
  generalize hW0 : (w.alloc (.cells #[.string x.f0, .string x.f1, .int .i64 x.f2, .int .i64 x.f3, .string x.f4, .slice A x.f5.length ca] 54)).alloc (.cells #[.string y.f0, .string y.f1, .int .i64 y.f2, .int .i64 y.f3, .string y.f4, .slice B y.f5.length cb] 54) = W0
  have HB0 := Lib.hid (show Below w.heap.size w W0 by rw [← hW0]; exact below_alloc (below_alloc (Below.refl _ _) _) _)
  have HK0 := Lib.hid (show W0.heap[w.heap.size]? = some (.cells #[.string x.f0, .string x.f1, .int .i64 x.f2, .int .i64 x.f3, .string x.f4, .slice A x.f5.length ca] 54 (0, 0)) by rw [← hW0]; exact alloc_on (new_at rfl _) _)
  have HK1 := Lib.hid (show W0.heap[w.heap.size + 1]? = some (.cells #[.string y.f0, .string y.f1, .int .i64 y.f2, .int .i64 y.f3, .string y.f4, .slice B y.f5.length cb] 54 (0, 0)) by rw [← hW0]; exact new_at (by simp) _)
  have HSZ := Lib.hid (show w.heap.size + 2 ≤ W0.heap.size by rw [← hW0]; simp)
  have HW0 := Lib.hid hW0; clear hW0
  obtain ⟨k0, k1, k2, k3, k4, k5, _, kl⟩ := six_cells HK0.out
  obtain ⟨j0, j1, j2, j3, j4, j5, _, jl⟩ := six_cells HK1.out
  go_enter Try.func72, Try.ntmps72
  go_upto_region 1 with (fail)
  rw [HW0.out]
  go_cut [5, 6] (fun v5 v6 W => ∃ g5 g6 : Nat, v5 = .pointer (some ⟨g5, 0, none⟩) ∧ v6 = .pointer (some ⟨g6, 0, none⟩) ∧ Aside0 (Below w.heap.size w W ∧ g5 ≠ g6 ∧ W0.heap.size ≤ g5 ∧ W0.heap.size ≤ g6 ∧ W.heap[w.heap.size]? = some (.cells #[.string x.f0, .string x.f1, .int .i64 x.f2, .int .i64 x.f3, .string x.f4, .slice A x.f5.length ca] 54 (0, 0)) ∧ W.heap[w.heap.size + 1]? = some (.cells #[.string y.f0, .string y.f1, .int .i64 y.f2, .int .i64 y.f3, .string y.f4, .slice B y.f5.length cb] 54 (0, 0)) ∧ W.heap[g5]? = some (.cells #[.string x.f0, .string x.f1, .int .i64 x.f2, .int .i64 x.f3, .string x.f4, .slice A x.f5.length ca] 54 (0, 0)) ∧ W.heap[g6]? = some (.cells #[.string y.f0, .string y.f1, .int .i64 y.f2, .int .i64 y.f3, .string y.f4, .slice B y.f5.length cb] 54 (0, 0))))
  case first =>
    go_region
    all_goals
      go_wp2
      go_meet
      refine ⟨_, _, rfl, rfl, ⟨below_drew (below_alloc (below_alloc HB0.out _) _), by omega, by omega, by omega, ?_, ?_, ?_, ?_⟩⟩
      all_goals first | exact blk_alloc (blk_alloc HK0.out _) _ | exact blk_alloc (blk_alloc HK1.out _) _ | exact blk_alloc (new_at rfl _) _ | exact new_at (by simp) _
  obtain ⟨g5, g6, rfl, rfl, HA⟩ := hcut
  clear k0 k1 k2 k3 k4 k5 kl j0 j1 j2 j3 j4 j5 jl HB0 HK0 HK1 HW0
  obtain ⟨k0, k1, k2, k3, k4, k5, kf, kl⟩ := six_cells HA.out.2.2.2.2.2.2.1
  obtain ⟨j0, j1, j2, j3, j4, j5, jf, jl⟩ := six_cells HA.out.2.2.2.2.2.2.2
  have kf5 := blk_frozen HA.out.2.2.2.2.2.2.1 5
  have jf5 := blk_frozen HA.out.2.2.2.2.2.2.2 5
  have hne := HA.out.2.1
  have hne' := Ne.symm hne
  go_upto_region 2 with (fail)
  go_cut [9] (fun v9 W => Aside0 (Below w.heap.size w W ∧ W.heap[w.heap.size]? = some (.cells #[.string x.f0, .string x.f1, .int .i64 x.f2, .int .i64 x.f3, .string x.f4, .slice A x.f5.length ca] 54 (0, 0)) ∧ W.heap[w.heap.size + 1]? = some (.cells #[.string y.f0, .string y.f1, .int .i64 y.f2, .int .i64 y.f3, .string y.f4, .slice B y.f5.length cb] 54 (0, 0)) ∧ W.heap[g5]? = some (.cells #[.string x.f0, .string x.f1, .int .i64 x.f2, .int .i64 x.f3, .string x.f4, .slice none 0 0] 54 (0, 0)) ∧ W.heap[g6]? = some (.cells #[.string y.f0, .string y.f1, .int .i64 y.f2, .int .i64 y.f3, .string y.f4, .slice none 0 0] 54 (0, 0))))
  case first =>
    go_wp2
    go_meet
    case rel =>
      have hb := HA.out.1
      have hs : w.heap.size + 2 ≤ W0.heap.size := HSZ.out
      exact ⟨below_set (below_set hb (by have := HA.out.2.2.1; omega)) (by have := HA.out.2.2.2.1; omega), blk_far (blk_far HA.out.2.2.2.2.1 (p := ⟨g5, 5, none⟩) (by have := HA.out.2.2.1; show w.heap.size ≠ g5; omega) _) (p := ⟨g6, 5, none⟩) (by have := HA.out.2.2.2.1; show w.heap.size ≠ g6; omega) _, blk_far (blk_far HA.out.2.2.2.2.2.1 (p := ⟨g5, 5, none⟩) (by have := HA.out.2.2.1; show w.heap.size + 1 ≠ g5; omega) _) (p := ⟨g6, 5, none⟩) (by have := HA.out.2.2.2.1; show w.heap.size + 1 ≠ g6; omega) _, blk_far (blk_put HA.out.2.2.2.2.2.2.1 5 _ rfl) (p := ⟨g6, 5, none⟩) hne _, blk_put (blk_far HA.out.2.2.2.2.2.2.2 (p := ⟨g5, 5, none⟩) hne' _) 5 _ rfl⟩
  clear k0 k1 k2 k3 k4 k5 kf kl j0 j1 j2 j3 j4 j5 jf jl kf5 jf5 hne hne' HA HSZ
  rename Aside0 _ => HA
  obtain ⟨k0, k1, k2, k3, k4, k5, kf, kl⟩ := six_cells HA.out.2.2.2.1
  obtain ⟨j0, j1, j2, j3, j4, j5, jf, jl⟩ := six_cells HA.out.2.2.2.2
  obtain ⟨_, _, _, _, _, m5, mf, ml⟩ := six_cells HA.out.2.1
  obtain ⟨_, _, _, _, _, n5, nf, nl⟩ := six_cells HA.out.2.2.1
  by_cases dd : x.f0 = y.f0
  rotate_left
  · have q := str_no dd
    have HQ := Lib.hid (HR.out.trans (decide_eq_false (fun e => dd (by rw [e]))))
    clear dd
    go_wp2
    go_ret
    exact ⟨ret_bool HQ.out.symm, HA.out.1⟩
  have q0 := str_yes dd
  have E0 := Lib.hid dd; clear dd
  by_cases dd : x.f1 = y.f1
  rotate_left
  · have q := str_no dd
    have HQ := Lib.hid (HR.out.trans (decide_eq_false (fun e => dd (by rw [e]))))
    clear dd
    go_wp2
    go_ret
    exact ⟨ret_bool HQ.out.symm, HA.out.1⟩
  have q1 := str_yes dd
  have E1 := Lib.hid dd; clear dd
  by_cases dd : x.f2 = y.f2
  rotate_left
  · have q := (show (x.f2 == y.f2) = false by simpa using dd)
    have HQ := Lib.hid (HR.out.trans (decide_eq_false (fun e => dd (by rw [e]))))
    clear dd
    go_wp2
    go_ret
    exact ⟨ret_bool HQ.out.symm, HA.out.1⟩
  have q2 := (show (x.f2 == y.f2) = true by simpa using dd)
  have E2 := Lib.hid dd; clear dd
  by_cases dd : x.f3 = y.f3
  rotate_left
  · have q := (show (x.f3 == y.f3) = false by simpa using dd)
    have HQ := Lib.hid (HR.out.trans (decide_eq_false (fun e => dd (by rw [e]))))
    clear dd
    go_wp2
    go_ret
    exact ⟨ret_bool HQ.out.symm, HA.out.1⟩
  have q3 := (show (x.f3 == y.f3) = true by simpa using dd)
  have E3 := Lib.hid dd; clear dd
  by_cases dd : x.f4 = y.f4
  rotate_left
  · have q := str_no dd
    have HQ := Lib.hid (HR.out.trans (decide_eq_false (fun e => dd (by rw [e]))))
    clear dd
    go_wp2
    go_ret
    exact ⟨ret_bool HQ.out.symm, HA.out.1⟩
  have q4 := str_yes dd
  have E4 := Lib.hid dd; clear dd
  have HC := Lib.hid (fieldsEq_calls A B ca cb x.f5 y.f5 _ (Kd.C_below HRX.out HA.out.1) (Kd.C_below HRY.out HA.out.1))
  by_cases dd : x.f5 = y.f5
  rotate_left
  · have HQ := Lib.hid (HR.out.trans (decide_eq_false (fun e => dd (by rw [e]))))
    rw [decide_eq_false dd] at HC
    clear dd
    go_wp2_with fail
    refine HC.out.mono ?_
    rintro e w1 ⟨rfl, hb⟩
    go_wp2
    go_ret
    exact ⟨ret_bool HQ.out.symm, below_then HA.out.1 HA.out.1.size hb⟩
  have HQ := Lib.hid (HR.out.trans (decide_eq_true (show x = y by
    have := dd
    have e0 := E0.out; have e1 := E1.out; have e2 := E2.out; have e3 := E3.out; have e4 := E4.out
    cases x; cases y; simp only at *; subst e0; subst e1; subst e2; subst e3; subst e4; subst this; rfl)))
  rw [decide_eq_true dd] at HC
  clear dd
  go_wp2_with fail
  refine HC.out.mono ?_
  rintro e w1 ⟨rfl, hb⟩
  go_wp2
  go_ret
  exact ⟨ret_bool HQ.out.symm, below_then HA.out.1 HA.out.1.size hb⟩

end Go.Proofs.Ytadhfedbgeenlaa.H

/- Two tables are the same. -/
namespace Go.Proofs.Ytadhfedbgeenlaa.H
open Go.RowKit Go.Proofs.YtadhfedbgeenlaaW.PrintWords Go.Proofs.YtadhfedbgeenlaaW.PrintLast Go.Proofs.YtadhfedbgeenlaaW.PrintMore
set_option linter.unusedVariables false
set_option linter.unusedSimpArgs false

set_option maxHeartbeats 1000000 in
set_option maxRecDepth 100000 in
theorem tab2_calls (A B : Option Addr) (ca cb : Nat) (xs ys : List S54) (w : World) (hx : Kd.C k54 w A xs.length xs) (hy : Kd.C k54 w B ys.length ys) :
    Calls Try.prog 20 #[.slice A xs.length ca, .slice B ys.length cb] w fun e w' => e = .returned (.bool (decide (xs = ys))) ∧ Below w.heap.size w w' := by
  have hm1 : xs.length ≤ 9223372036854775807 := hx.2.1
  have hm2 : ys.length ≤ 9223372036854775807 := hy.2.1
  have HX := Lib.hid (show ∃ r, r = decide (xs = ys) from ⟨_, rfl⟩)
  obtain ⟨r, hr⟩ := HX.out
  have HR := Lib.hid hr
  rw [← hr]
  clear HX hr
  have HRX := Lib.hid hx; clear hx
  have HRY := Lib.hid hy; clear hy
  go_enter Try.func20, Try.ntmps20
  by_cases d2 : xs.length = ys.length
  rotate_left
  · have d2a : ((xs.length : Int) != ys.length) = true := by simp; omega
    have HQ := Lib.hid (HR.out.trans (decide_eq_false (ne_len d2)))
    clear d2
    go_wp2
    go_ret
    exact ⟨ret_bool HQ.out.symm, Below.refl _ _⟩
  have d2a : ((xs.length : Int) != ys.length) = false := by simp; omega
  have D2 := Lib.hid d2; clear d2
  go_wp2
  go_loopw [5] (fun v W => ∃ k : Nat, k ≤ xs.length ∧ v = .int .i64 k ∧ Aside0 (xs.take k = ys.take k) ∧ Aside0 (Below w.heap.size w W)) (fun v _ => xs.length - (intOf v).toNat)
  case atStart => exact ⟨0, Nat.zero_le _, rfl, ⟨rfl⟩, ⟨Below.refl _ _⟩⟩
  case round =>
    obtain ⟨k, hk, rfl, HE, HB⟩ := hrel
    by_cases hlt : k < xs.length
    rotate_left
    · obtain rfl : k = xs.length := by omega
      have HQ := Lib.hid (HR.out.trans (decide_eq_true (eq_of_take D2.out HE.out)))
      clear hlt
      go_wp2
      go_ret
      exact ⟨ret_bool HQ.out.symm, HB.out⟩
    obtain ⟨ad, A5, c5, hA, h0, h1, h2, h3, h4, h5, hl, hf⟩ := at_T54 HRX.out k (by omega) (by omega)
    obtain ⟨ad', A5', c5', hA', h0', h1', h2', h3', h4', h5', hl', hf'⟩ := at_T54 HRY.out k (by omega) (by have := D2.out; omega)
    subst hA; subst hA'
    rw [Int.toNat_natCast] at h0 h1 h2 h3 h4 h5 h0' h1' h2' h3' h4' h5'
    have b1 : (0 : Int) ≤ k := by omega
    have b2 : (k : Int) < xs.length := by omega
    have b3 : (k : Int) < ys.length := by have := D2.out; omega
    have HNX := Lib.hid (fun h => take_next (k := k) z54 HE.out hlt (by have := D2.out; omega) (show rd_T54 xs k = rd_T54 ys k from h))
    have HNE := Lib.hid (fun h => ne_at (k := k) z54 (show ¬ rd_T54 xs k = rd_T54 ys k from h))
    generalize rd_T54 xs k = x at *
    generalize rd_T54 ys k = y at *
    clear HE
    have HKP := Lib.hid (show ∀ W W2 : World, (W.cell? (ad.add (k * 6)) = some (.string x.f0) ∧ W.cell? ⟨(ad.add (k * 6)).block, (ad.add (k * 6)).off + 1, none⟩ = some (.string x.f1) ∧ W.cell? ⟨(ad.add (k * 6)).block, (ad.add (k * 6)).off + 2, none⟩ = some (.int .i64 x.f2) ∧ W.cell? ⟨(ad.add (k * 6)).block, (ad.add (k * 6)).off + 3, none⟩ = some (.int .i64 x.f3) ∧ W.cell? ⟨(ad.add (k * 6)).block, (ad.add (k * 6)).off + 4, none⟩ = some (.string x.f4) ∧ W.cell? ⟨(ad.add (k * 6)).block, (ad.add (k * 6)).off + 5, none⟩ = some (.slice A5 x.f5.length c5) ∧ W.cell? (ad'.add (k * 6)) = some (.string y.f0) ∧ W.cell? ⟨(ad'.add (k * 6)).block, (ad'.add (k * 6)).off + 1, none⟩ = some (.string y.f1) ∧ W.cell? ⟨(ad'.add (k * 6)).block, (ad'.add (k * 6)).off + 2, none⟩ = some (.int .i64 y.f2) ∧ W.cell? ⟨(ad'.add (k * 6)).block, (ad'.add (k * 6)).off + 3, none⟩ = some (.int .i64 y.f3) ∧ W.cell? ⟨(ad'.add (k * 6)).block, (ad'.add (k * 6)).off + 4, none⟩ = some (.string y.f4) ∧ W.cell? ⟨(ad'.add (k * 6)).block, (ad'.add (k * 6)).off + 5, none⟩ = some (.slice A5' y.f5.length c5') ∧ Aside0 (Below w.heap.size w W)) → Below W.heap.size W W2 → (W2.cell? (ad.add (k * 6)) = some (.string x.f0) ∧ W2.cell? ⟨(ad.add (k * 6)).block, (ad.add (k * 6)).off + 1, none⟩ = some (.string x.f1) ∧ W2.cell? ⟨(ad.add (k * 6)).block, (ad.add (k * 6)).off + 2, none⟩ = some (.int .i64 x.f2) ∧ W2.cell? ⟨(ad.add (k * 6)).block, (ad.add (k * 6)).off + 3, none⟩ = some (.int .i64 x.f3) ∧ W2.cell? ⟨(ad.add (k * 6)).block, (ad.add (k * 6)).off + 4, none⟩ = some (.string x.f4) ∧ W2.cell? ⟨(ad.add (k * 6)).block, (ad.add (k * 6)).off + 5, none⟩ = some (.slice A5 x.f5.length c5) ∧ W2.cell? (ad'.add (k * 6)) = some (.string y.f0) ∧ W2.cell? ⟨(ad'.add (k * 6)).block, (ad'.add (k * 6)).off + 1, none⟩ = some (.string y.f1) ∧ W2.cell? ⟨(ad'.add (k * 6)).block, (ad'.add (k * 6)).off + 2, none⟩ = some (.int .i64 y.f2) ∧ W2.cell? ⟨(ad'.add (k * 6)).block, (ad'.add (k * 6)).off + 3, none⟩ = some (.int .i64 y.f3) ∧ W2.cell? ⟨(ad'.add (k * 6)).block, (ad'.add (k * 6)).off + 4, none⟩ = some (.string y.f4) ∧ W2.cell? ⟨(ad'.add (k * 6)).block, (ad'.add (k * 6)).off + 5, none⟩ = some (.slice A5' y.f5.length c5') ∧ Aside0 (Below w.heap.size w W2)) from fun W W2 h hb => ⟨kept_cell hb h.1, kept_cell hb h.2.1, kept_cell hb h.2.2.1, kept_cell hb h.2.2.2.1, kept_cell hb h.2.2.2.2.1, kept_cell hb h.2.2.2.2.2.1, kept_cell hb h.2.2.2.2.2.2.1, kept_cell hb h.2.2.2.2.2.2.2.1, kept_cell hb h.2.2.2.2.2.2.2.2.1, kept_cell hb h.2.2.2.2.2.2.2.2.2.1, kept_cell hb h.2.2.2.2.2.2.2.2.2.2.1, kept_cell hb h.2.2.2.2.2.2.2.2.2.2.2.1, ⟨below_then h.2.2.2.2.2.2.2.2.2.2.2.2.out h.2.2.2.2.2.2.2.2.2.2.2.2.out.size hb⟩⟩)
    have hs0 : wr.cell? (ad.add (k * 6)) = some (.string x.f0) ∧ wr.cell? ⟨(ad.add (k * 6)).block, (ad.add (k * 6)).off + 1, none⟩ = some (.string x.f1) ∧ wr.cell? ⟨(ad.add (k * 6)).block, (ad.add (k * 6)).off + 2, none⟩ = some (.int .i64 x.f2) ∧ wr.cell? ⟨(ad.add (k * 6)).block, (ad.add (k * 6)).off + 3, none⟩ = some (.int .i64 x.f3) ∧ wr.cell? ⟨(ad.add (k * 6)).block, (ad.add (k * 6)).off + 4, none⟩ = some (.string x.f4) ∧ wr.cell? ⟨(ad.add (k * 6)).block, (ad.add (k * 6)).off + 5, none⟩ = some (.slice A5 x.f5.length c5) ∧ wr.cell? (ad'.add (k * 6)) = some (.string y.f0) ∧ wr.cell? ⟨(ad'.add (k * 6)).block, (ad'.add (k * 6)).off + 1, none⟩ = some (.string y.f1) ∧ wr.cell? ⟨(ad'.add (k * 6)).block, (ad'.add (k * 6)).off + 2, none⟩ = some (.int .i64 y.f2) ∧ wr.cell? ⟨(ad'.add (k * 6)).block, (ad'.add (k * 6)).off + 3, none⟩ = some (.int .i64 y.f3) ∧ wr.cell? ⟨(ad'.add (k * 6)).block, (ad'.add (k * 6)).off + 4, none⟩ = some (.string y.f4) ∧ wr.cell? ⟨(ad'.add (k * 6)).block, (ad'.add (k * 6)).off + 5, none⟩ = some (.slice A5' y.f5.length c5') ∧ Aside0 (Below w.heap.size w wr) := ⟨kept_cell HB.out h0, kept_cell HB.out h1, kept_cell HB.out h2, kept_cell HB.out h3, kept_cell HB.out h4, kept_cell HB.out h5, kept_cell HB.out h0', kept_cell HB.out h1', kept_cell HB.out h2', kept_cell HB.out h3', kept_cell HB.out h4', kept_cell HB.out h5', ⟨HB.out⟩⟩
    obtain ⟨z0, z1, z2, z3, z4, z5, y0, y1, y2, y3, y4, y5, _⟩ := hs0
    have HCC := Lib.hid (fun W (hb : Below w.heap.size w W) => rec2_calls x y A5 A5' c5 c5' W (Kd.C_below hf hb) (Kd.C_below hf' hb))
    clear h0 h1 h2 h3 h4 h5 hl hf h0' h1' h2' h3' h4' h5' hl' hf'
    have hs0 : wr.cell? (ad.add (k * 6)) = some (.string x.f0) ∧ wr.cell? ⟨(ad.add (k * 6)).block, (ad.add (k * 6)).off + 1, none⟩ = some (.string x.f1) ∧ wr.cell? ⟨(ad.add (k * 6)).block, (ad.add (k * 6)).off + 2, none⟩ = some (.int .i64 x.f2) ∧ wr.cell? ⟨(ad.add (k * 6)).block, (ad.add (k * 6)).off + 3, none⟩ = some (.int .i64 x.f3) ∧ wr.cell? ⟨(ad.add (k * 6)).block, (ad.add (k * 6)).off + 4, none⟩ = some (.string x.f4) ∧ wr.cell? ⟨(ad.add (k * 6)).block, (ad.add (k * 6)).off + 5, none⟩ = some (.slice A5 x.f5.length c5) ∧ wr.cell? (ad'.add (k * 6)) = some (.string y.f0) ∧ wr.cell? ⟨(ad'.add (k * 6)).block, (ad'.add (k * 6)).off + 1, none⟩ = some (.string y.f1) ∧ wr.cell? ⟨(ad'.add (k * 6)).block, (ad'.add (k * 6)).off + 2, none⟩ = some (.int .i64 y.f2) ∧ wr.cell? ⟨(ad'.add (k * 6)).block, (ad'.add (k * 6)).off + 3, none⟩ = some (.int .i64 y.f3) ∧ wr.cell? ⟨(ad'.add (k * 6)).block, (ad'.add (k * 6)).off + 4, none⟩ = some (.string y.f4) ∧ wr.cell? ⟨(ad'.add (k * 6)).block, (ad'.add (k * 6)).off + 5, none⟩ = some (.slice A5' y.f5.length c5') ∧ Aside0 (Below w.heap.size w wr) := ⟨z0, z1, z2, z3, z4, z5, y0, y1, y2, y3, y4, y5, ⟨HB.out⟩⟩
    by_cases dd : x = y
    rotate_left
    · have HQ := Lib.hid (HR.out.trans (decide_eq_false (HNE.out dd)))
      rw [decide_eq_false dd] at HCC
      clear dd HNX HNE
      go_wp2_with fail
      go_region_held3 (fun W => W.cell? (ad.add (k * 6)) = some (.string x.f0) ∧ W.cell? ⟨(ad.add (k * 6)).block, (ad.add (k * 6)).off + 1, none⟩ = some (.string x.f1) ∧ W.cell? ⟨(ad.add (k * 6)).block, (ad.add (k * 6)).off + 2, none⟩ = some (.int .i64 x.f2) ∧ W.cell? ⟨(ad.add (k * 6)).block, (ad.add (k * 6)).off + 3, none⟩ = some (.int .i64 x.f3) ∧ W.cell? ⟨(ad.add (k * 6)).block, (ad.add (k * 6)).off + 4, none⟩ = some (.string x.f4) ∧ W.cell? ⟨(ad.add (k * 6)).block, (ad.add (k * 6)).off + 5, none⟩ = some (.slice A5 x.f5.length c5) ∧ W.cell? (ad'.add (k * 6)) = some (.string y.f0) ∧ W.cell? ⟨(ad'.add (k * 6)).block, (ad'.add (k * 6)).off + 1, none⟩ = some (.string y.f1) ∧ W.cell? ⟨(ad'.add (k * 6)).block, (ad'.add (k * 6)).off + 2, none⟩ = some (.int .i64 y.f2) ∧ W.cell? ⟨(ad'.add (k * 6)).block, (ad'.add (k * 6)).off + 3, none⟩ = some (.int .i64 y.f3) ∧ W.cell? ⟨(ad'.add (k * 6)).block, (ad'.add (k * 6)).off + 4, none⟩ = some (.string y.f4) ∧ W.cell? ⟨(ad'.add (k * 6)).block, (ad'.add (k * 6)).off + 5, none⟩ = some (.slice A5' y.f5.length c5') ∧ Aside0 (Below w.heap.size w W))
        (first | assumption | exact HKP.out _ _ (by assumption) (below_drew (Below.refl _ _)) | go_keep)
        (first | (go_at_call 29; (with_reducible refine (HCC.out _ ?hbx).mono ?_); (case hbx => exact (by assumption : _ ∧ _ ∧ _ ∧ _ ∧ _ ∧ _ ∧ _ ∧ _ ∧ _ ∧ _ ∧ _ ∧ _ ∧ Aside0 (Below w.heap.size w _)).2.2.2.2.2.2.2.2.2.2.2.2.out); rintro e w2 ⟨rfl, hb2⟩; have hs2 := HKP.out _ _ (by assumption) hb2))
      all_goals
        go_wp2
        go_ret
        exact ⟨ret_bool HQ.out.symm, (by assumption : _ ∧ _ ∧ _ ∧ _ ∧ _ ∧ _ ∧ _ ∧ _ ∧ _ ∧ _ ∧ _ ∧ _ ∧ Aside0 (Below w.heap.size w _)).2.2.2.2.2.2.2.2.2.2.2.2.out⟩
    have HQ := Lib.hid (HNX.out dd)
    rw [decide_eq_true dd] at HCC
    clear dd HNX HNE
    go_wp2_with fail
    go_region_held3 (fun W => W.cell? (ad.add (k * 6)) = some (.string x.f0) ∧ W.cell? ⟨(ad.add (k * 6)).block, (ad.add (k * 6)).off + 1, none⟩ = some (.string x.f1) ∧ W.cell? ⟨(ad.add (k * 6)).block, (ad.add (k * 6)).off + 2, none⟩ = some (.int .i64 x.f2) ∧ W.cell? ⟨(ad.add (k * 6)).block, (ad.add (k * 6)).off + 3, none⟩ = some (.int .i64 x.f3) ∧ W.cell? ⟨(ad.add (k * 6)).block, (ad.add (k * 6)).off + 4, none⟩ = some (.string x.f4) ∧ W.cell? ⟨(ad.add (k * 6)).block, (ad.add (k * 6)).off + 5, none⟩ = some (.slice A5 x.f5.length c5) ∧ W.cell? (ad'.add (k * 6)) = some (.string y.f0) ∧ W.cell? ⟨(ad'.add (k * 6)).block, (ad'.add (k * 6)).off + 1, none⟩ = some (.string y.f1) ∧ W.cell? ⟨(ad'.add (k * 6)).block, (ad'.add (k * 6)).off + 2, none⟩ = some (.int .i64 y.f2) ∧ W.cell? ⟨(ad'.add (k * 6)).block, (ad'.add (k * 6)).off + 3, none⟩ = some (.int .i64 y.f3) ∧ W.cell? ⟨(ad'.add (k * 6)).block, (ad'.add (k * 6)).off + 4, none⟩ = some (.string y.f4) ∧ W.cell? ⟨(ad'.add (k * 6)).block, (ad'.add (k * 6)).off + 5, none⟩ = some (.slice A5' y.f5.length c5') ∧ Aside0 (Below w.heap.size w W))
      (first | assumption | exact HKP.out _ _ (by assumption) (below_drew (Below.refl _ _)) | go_keep)
      (first | (go_at_call 29; (with_reducible refine (HCC.out _ ?hbx).mono ?_); (case hbx => exact (by assumption : _ ∧ _ ∧ _ ∧ _ ∧ _ ∧ _ ∧ _ ∧ _ ∧ _ ∧ _ ∧ _ ∧ _ ∧ Aside0 (Below w.heap.size w _)).2.2.2.2.2.2.2.2.2.2.2.2.out); rintro e w2 ⟨rfl, hb2⟩; have hs2 := HKP.out _ _ (by assumption) hb2))
    all_goals
      go_wp2
      go_roundw
      case rel => exact ⟨k + 1, by omega, by go_num, ⟨HQ.out⟩, ⟨(by assumption : _ ∧ _ ∧ _ ∧ _ ∧ _ ∧ _ ∧ _ ∧ _ ∧ _ ∧ _ ∧ _ ∧ _ ∧ Aside0 (Below w.heap.size w _)).2.2.2.2.2.2.2.2.2.2.2.2.out⟩⟩
      case measure => simp [intOf]; omega

end Go.Proofs.Ytadhfedbgeenlaa.H

/- slices.EqualFunc of tables; table.Same. -/
namespace Go.Proofs.Ytadhfedbgeenlaa.H
open Go.RowKit Go.Proofs.YtadhfedbgeenlaaW.PrintWords Go.Proofs.YtadhfedbgeenlaaW.PrintLast Go.Proofs.YtadhfedbgeenlaaW.PrintMore
set_option linter.unusedVariables false
set_option linter.unusedSimpArgs false

set_option maxHeartbeats 1000000 in
set_option maxRecDepth 100000 in
theorem tabEq_calls (A B : Option Addr) (ca cb : Nat) (xs ys : List S54) (w : World) (hx : Kd.C k54 w A xs.length xs) (hy : Kd.C k54 w B ys.length ys) :
    Calls Try.prog 71 #[.slice A xs.length ca, .slice B ys.length cb, .func (.func 72) #[] #[]] w fun e w' => e = .returned (.bool (decide (xs = ys))) ∧ Below w.heap.size w w' := by
  have hm1 : xs.length ≤ 9223372036854775807 := hx.2.1
  have hm2 : ys.length ≤ 9223372036854775807 := hy.2.1
  have HX := Lib.hid (show ∃ r, r = decide (xs = ys) from ⟨_, rfl⟩)
  obtain ⟨r, hr⟩ := HX.out
  have HR := Lib.hid hr
  rw [← hr]
  clear HX hr
  have HRX := Lib.hid hx; clear hx
  have HRY := Lib.hid hy; clear hy
  go_enter Try.func71, Try.ntmps71
  by_cases d2 : xs.length = ys.length
  rotate_left
  · have d2a : ((xs.length : Int) != ys.length) = true := by simp; omega
    have HQ := Lib.hid (HR.out.trans (decide_eq_false (ne_len d2)))
    clear d2
    go_wp2
    go_ret
    exact ⟨ret_bool HQ.out.symm, Below.refl _ _⟩
  have d2a : ((xs.length : Int) != ys.length) = false := by simp; omega
  have D2 := Lib.hid d2; clear d2
  go_wp2
  go_loopw [17] (fun v W => ∃ k : Nat, k ≤ xs.length ∧ v = .int .i64 k ∧ Aside0 (xs.take k = ys.take k) ∧ Aside0 (Below w.heap.size w W)) (fun v _ => xs.length - (intOf v).toNat)
  case atStart => exact ⟨0, Nat.zero_le _, rfl, ⟨rfl⟩, ⟨Below.refl _ _⟩⟩
  case round =>
    obtain ⟨k, hk, rfl, HE, HB⟩ := hrel
    by_cases hlt : k < xs.length
    rotate_left
    · obtain rfl : k = xs.length := by omega
      have HQ := Lib.hid (HR.out.trans (decide_eq_true (eq_of_take D2.out HE.out)))
      clear hlt
      go_wp2
      go_ret
      exact ⟨ret_bool HQ.out.symm, HB.out⟩
    obtain ⟨ad, A5, c5, hA, h0, h1, h2, h3, h4, h5, hl, hf⟩ := at_T54 HRX.out k (by omega) (by omega)
    obtain ⟨ad', A5', c5', hA', h0', h1', h2', h3', h4', h5', hl', hf'⟩ := at_T54 HRY.out k (by omega) (by have := D2.out; omega)
    subst hA; subst hA'
    rw [Int.toNat_natCast] at h0 h1 h2 h3 h4 h5 h0' h1' h2' h3' h4' h5'
    have b1 : (0 : Int) ≤ k := by omega
    have b2 : (k : Int) < xs.length := by omega
    have b3 : (k : Int) < ys.length := by have := D2.out; omega
    have HNX := Lib.hid (fun h => take_next (k := k) z54 HE.out hlt (by have := D2.out; omega) (show rd_T54 xs k = rd_T54 ys k from h))
    have HNE := Lib.hid (fun h => ne_at (k := k) z54 (show ¬ rd_T54 xs k = rd_T54 ys k from h))
    generalize rd_T54 xs k = x at *
    generalize rd_T54 ys k = y at *
    clear HE
    have HCX := Lib.hid (And.intro h0 (And.intro h1 (And.intro h2 (And.intro h3 (And.intro h4 h5)))))
    have HCY := Lib.hid (And.intro h0' (And.intro h1' (And.intro h2' (And.intro h3' (And.intro h4' h5')))))
    have HCC := Lib.hid (fun W (hb : Below w.heap.size w W) => rec_calls x y A5 A5' c5 c5' W (Kd.C_below hf hb) (Kd.C_below hf' hb))
    clear h0 h1 h2 h3 h4 h5 hl hf h0' h1' h2' h3' h4' h5' hl' hf'
    obtain ⟨h0, h1, h2, h3, h4, h5⟩ := HCX.out
    replace h0 := kept_cell HB.out h0
    replace h1 := kept_cell HB.out h1
    replace h2 := kept_cell HB.out h2
    replace h3 := kept_cell HB.out h3
    replace h4 := kept_cell HB.out h4
    replace h5 := kept_cell HB.out h5
    go_upto_region 5 with (fail)
    go_cut [7, 8] (fun v7 v8 W => v7 = .int .i64 k ∧ ∃ g : Nat, v8 = .pointer (some ⟨g, 0, none⟩) ∧ Aside0 (Below w.heap.size w W ∧ W.heap[g]? = some (.cells #[.string x.f0, .string x.f1, .int .i64 x.f2, .int .i64 x.f3, .string x.f4, .slice A5 x.f5.length c5] 54 (0, 0))))
    case first =>
      go_wp2
      go_meet
      case rel => first | exact ⟨rfl, _, rfl, ⟨below_alloc HB.out _, new_at (by simp) _⟩⟩ | ((repeat apply Exists.intro); exact ⟨⟨rfl, _, rfl, ⟨below_alloc HB.out _, new_at (by simp) _⟩⟩, rfl⟩)
    clear h0 h1 h2 h3 h4 h5
    obtain ⟨rfl, g8, rfl, HA⟩ := hcut
    obtain ⟨h0, h1, h2, h3, h4, h5⟩ := HCY.out
    replace h0 := kept_cell HA.out.1 h0
    replace h1 := kept_cell HA.out.1 h1
    replace h2 := kept_cell HA.out.1 h2
    replace h3 := kept_cell HA.out.1 h3
    replace h4 := kept_cell HA.out.1 h4
    replace h5 := kept_cell HA.out.1 h5
    go_upto_region 6 with (fail)
    go_cut [9] (fun v9 W => ∃ g : Nat, v9 = .pointer (some ⟨g, 0, none⟩) ∧ Aside0 (Below w.heap.size w W ∧ W.heap[g8]? = some (.cells #[.string x.f0, .string x.f1, .int .i64 x.f2, .int .i64 x.f3, .string x.f4, .slice A5 x.f5.length c5] 54 (0, 0)) ∧ W.heap[g]? = some (.cells #[.string y.f0, .string y.f1, .int .i64 y.f2, .int .i64 y.f3, .string y.f4, .slice A5' y.f5.length c5'] 54 (0, 0))))
    case first =>
      go_wp2
      go_meet
      case rel => first | exact ⟨_, rfl, ⟨below_alloc HA.out.1 _, blk_alloc HA.out.2 _, new_at (by simp) _⟩⟩ | ((repeat apply Exists.intro); exact ⟨⟨_, rfl, ⟨below_alloc HA.out.1 _, blk_alloc HA.out.2 _, new_at (by simp) _⟩⟩, rfl⟩)
    clear h0 h1 h2 h3 h4 h5 HA
    obtain ⟨g9, rfl, HA⟩ := hcut
    obtain ⟨k0, k1, k2, k3, k4, k5, kf, kl⟩ := six_cells HA.out.2.1
    obtain ⟨j0, j1, j2, j3, j4, j5, jf, jl⟩ := six_cells HA.out.2.2
    by_cases dd : x = y
    rotate_left
    · have HQ := Lib.hid (HR.out.trans (decide_eq_false (HNE.out dd)))
      have HD := Lib.hid (HCC.out _ HA.out.1)
      rw [decide_eq_false dd] at HD
      clear dd HNX HNE HCC
      go_wp2_with fail
      refine HD.out.mono ?_
      rintro e w1 ⟨rfl, hb⟩
      go_wp2
      go_ret
      exact ⟨ret_bool HQ.out.symm, below_then HA.out.1 HA.out.1.size hb⟩
    have HQ := Lib.hid (HNX.out dd)
    have HD := Lib.hid (HCC.out _ HA.out.1)
    rw [decide_eq_true dd] at HD
    clear dd HNX HNE HCC
    go_wp2_with fail
    refine HD.out.mono ?_
    rintro e w1 ⟨rfl, hb⟩
    go_wp2
    go_roundw
    case rel => exact ⟨k + 1, by omega, by go_num, ⟨HQ.out⟩, ⟨below_then HA.out.1 HA.out.1.size hb⟩⟩
    case measure => simp [intOf]; omega

set_option maxHeartbeats 1000000 in
set_option maxRecDepth 100000 in
theorem tab_calls (A B : Option Addr) (ca cb : Nat) (xs ys : List S54) (w : World) (hx : Kd.C k54 w A xs.length xs) (hy : Kd.C k54 w B ys.length ys) :
    Calls Try.prog 51 #[.slice A xs.length ca, .slice B ys.length cb] w fun e w' => e = .returned (.bool (decide (xs = ys))) ∧ Below w.heap.size w w' := by
  have HC := Lib.hid (tabEq_calls A B ca cb xs ys w hx hy)
  go_enter Try.func51, Try.ntmps51
  go_wp2_with fail
  refine HC.out.mono ?_
  rintro e w1 ⟨rfl, hb⟩
  go_wp2
  go_ret
  exact ⟨rfl, hb⟩

end Go.Proofs.Ytadhfedbgeenlaa.H

/- Fields that may be: field.Right and the document's; the document's extra and Knows. -/
namespace Go.Proofs.Ytadhfedbgeenlaa.H
open Go.RowKit Go.Proofs.YtadhfedbgeenlaaW.PrintWords Go.Proofs.YtadhfedbgeenlaaW.PrintLast Go.Proofs.YtadhfedbgeenlaaW.PrintMore
set_option linter.unusedVariables false
set_option linter.unusedSimpArgs false

/-- Tags that rise from last on, none too great, no data too long. -/
def fGo : List S60 → Int → Bool
  | [], _ => true
  | f :: fs, last => if f.f0 ≤ last ∨ 1000000 < f.f0 ∨ 1000 < f.f1.size then false else fGo fs f.f0
def fieldsOk (l : List S60) : Bool := fGo l 0 && decide (l.length ≤ 64)

set_option maxHeartbeats 1000000 in
set_option maxRecDepth 100000 in
theorem fieldRight_calls (A : Option Addr) (c : Nat) (l : List S60) (w : World) (hr : Kd.C k60 w A l.length l) :
    Calls Try.prog 60 #[.slice A l.length c] w fun e w' => e = .returned (.bool (fieldsOk l)) ∧ Below w.heap.size w w' := by
  have hm : l.length ≤ 9223372036854775807 := hr.2.1
  have HRR := Lib.hid hr; clear hr
  have HD := Lib.hid (show ∀ b, fGo l 0 = b → fieldsOk l = (b && decide (l.length ≤ 64)) from fun b h => by unfold fieldsOk; rw [h])
  generalize fieldsOk l = r at *
  go_enter Try.func60, Try.ntmps60
  go_wp2
  go_loopw [3, 8] (fun v3 v8 W => ∃ (k : Nat) (last : Int), k ≤ l.length ∧ v8 = .int .i64 k ∧ v3 = .int .i64 last ∧ Aside0 (fGo l 0 = fGo (l.drop k) last) ∧ Aside0 (Below w.heap.size w W)) (fun _ v8 _ => l.length - (intOf v8).toNat)
  case atStart => exact ⟨0, 0, Nat.zero_le _, rfl, rfl, ⟨rfl⟩, ⟨Below.refl _ _⟩⟩
  case round =>
    obtain ⟨k, last, hk, rfl, rfl, HE, HB⟩ := hrel
    by_cases hlt : k < l.length
    rotate_left
    · obtain rfl : k = l.length := by omega
      have HQ := Lib.hid (HD.out true (by rw [HE.out, List.drop_length]; rfl))
      clear hlt HE HD
      by_cases hl : l.length ≤ 64
      · have e1 : (l.length : Int) ≤ 64 := by omega
        have HS := Lib.hid (HQ.out.trans (by rw [decide_eq_true hl]; rfl : _ = true)); clear hl HQ
        go_wp2
        go_ret
        exact ⟨ret_bool HS.out.symm, HB.out⟩
      · have e1 : ¬ (l.length : Int) ≤ 64 := by omega
        have HS := Lib.hid (HQ.out.trans (by rw [decide_eq_false hl]; rfl : _ = false)); clear hl HQ
        go_wp2
        go_ret
        exact ⟨ret_bool HS.out.symm, HB.out⟩
    obtain ⟨ad, hA, h0, h1⟩ := at_T60 HRR.out k (by omega) (by omega)
    subst hA
    rw [Int.toNat_natCast] at h0 h1
    replace h0 := kept_cell HB.out h0
    replace h1 := kept_cell HB.out h1
    have hx : fGo (l.drop k) last = if (rd_T60 l k).f0 ≤ last ∨ 1000000 < (rd_T60 l k).f0 ∨ 1000 < (rd_T60 l k).f1.size then false else fGo (l.drop (k + 1)) (rd_T60 l k).f0 := by
      rw [drop_getD l z60 hlt, fGo]; rfl
    generalize rd_T60 l k = x at *
    have b1 : (0 : Int) ≤ k := by omega
    have b2 : (k : Int) < l.length := by omega
    have HX := Lib.hid (HE.out.trans hx); clear hx HE
    by_cases d0 : x.f0 ≤ last
    · have HQ := Lib.hid (HD.out false (by rw [HX.out, if_pos (Or.inl d0)]))
      clear HX HD
      go_wp2
      go_ret
      exact ⟨ret_bool HQ.out.symm, below_alloc HB.out _⟩
    by_cases d1 : 1000000 < x.f0
    · have HQ := Lib.hid (HD.out false (by rw [HX.out, if_pos (Or.inr (Or.inl d1))]))
      clear HX HD
      go_wp2
      go_ret
      exact ⟨ret_bool HQ.out.symm, below_alloc HB.out _⟩
    by_cases d2 : 1000 < x.f1.size
    · have HQ := Lib.hid (HD.out false (by rw [HX.out, if_pos (Or.inr (Or.inr d2))]))
      have d2' : (1000 : Int) < x.f1.size := by omega
      clear HX HD d2
      go_wp2
      go_ret
      exact ⟨ret_bool HQ.out.symm, below_alloc HB.out _⟩
    have d2' : ¬ (1000 : Int) < x.f1.size := by omega
    have HQ := Lib.hid (HX.out.trans (if_neg (by rintro (h | h | h); exact d0 h; exact d1 h; exact d2 h)))
    clear HX HD d2
    go_wp2
    go_roundw
    case rel => exact ⟨k + 1, x.f0, by omega, by go_num, rfl, ⟨HQ.out⟩, ⟨below_alloc HB.out _⟩⟩
    case measure => simp [intOf]; omega

end Go.Proofs.Ytadhfedbgeenlaa.H

/- Fields that may be, by the document; Knows and extra. -/
namespace Go.Proofs.Ytadhfedbgeenlaa.H
open Go.RowKit Go.Proofs.YtadhfedbgeenlaaW.PrintWords Go.Proofs.YtadhfedbgeenlaaW.PrintLast Go.Proofs.YtadhfedbgeenlaaW.PrintMore
set_option linter.unusedVariables false
set_option linter.unusedSimpArgs false

def prevTag (l : List S60) (k : Nat) : Int := if k = 0 then 0 else (rd_T60 l ((k - 1 : Nat) : Int)).f0

set_option maxHeartbeats 2000000 in
set_option maxRecDepth 100000 in
theorem field2Right_calls (A : Option Addr) (c : Nat) (l : List S60) (w : World) (hr : Kd.C k60 w A l.length l) :
    Calls Try.prog 81 #[.slice A l.length c] w fun e w' => e = .returned (.bool (fieldsOk l)) ∧ Below w.heap.size w w' := by
  have hm : l.length ≤ 9223372036854775807 := hr.2.1
  have HRR := Lib.hid hr; clear hr
  have HD := Lib.hid (show ∀ b, fGo l 0 = b → fieldsOk l = (b && decide (l.length ≤ 64)) from fun b h => by unfold fieldsOk; rw [h])
  generalize fieldsOk l = r at *
  go_enter Try.func81, Try.ntmps81
  go_wp2
  go_loopw [3] (fun v3 W => ∃ (k : Nat), k ≤ l.length ∧ v3 = .int .i64 k ∧ Aside0 (fGo l 0 = fGo (l.drop k) (prevTag l k) ∧ 0 ≤ prevTag l k) ∧ Aside0 (Below w.heap.size w W)) (fun v3 _ => l.length - (intOf v3).toNat)
  case atStart => exact ⟨0, Nat.zero_le _, rfl, ⟨rfl, Int.le_refl _⟩, ⟨Below.refl _ _⟩⟩
  case round =>
    obtain ⟨k, hk, rfl, HE, HB⟩ := hrel
    by_cases hlt : k < l.length
    rotate_left
    · obtain rfl : k = l.length := by omega
      have HQ := Lib.hid (HD.out true (by rw [HE.out.1, List.drop_length]; rfl))
      clear hlt HE HD
      by_cases hl : l.length ≤ 64
      · have e1 : (l.length : Int) ≤ 64 := by omega
        have HS := Lib.hid (HQ.out.trans (by rw [decide_eq_true hl]; rfl : _ = true)); clear hl HQ
        go_wp2
        go_ret
        exact ⟨ret_bool HS.out.symm, HB.out⟩
      · have e1 : ¬ (l.length : Int) ≤ 64 := by omega
        have HS := Lib.hid (HQ.out.trans (by rw [decide_eq_false hl]; rfl : _ = false)); clear hl HQ
        go_wp2
        go_ret
        exact ⟨ret_bool HS.out.symm, HB.out⟩
    obtain ⟨ad, hA, h0, h1⟩ := at_T60 HRR.out k (by omega) (by omega)
    obtain ⟨ad', hA', h0', h1'⟩ := at_T60 HRR.out ((k - 1 : Nat) : Int) (by omega) (by omega)
    rw [hA] at hA'
    injection hA' with hA'
    subst hA'
    subst hA
    rw [Int.toNat_natCast] at h0 h1 h0' h1'
    replace h0 := kept_cell HB.out h0
    replace h1 := kept_cell HB.out h1
    replace h0' := kept_cell HB.out h0'
    replace h1' := kept_cell HB.out h1'
    have hx : fGo (l.drop k) (prevTag l k) = if (rd_T60 l k).f0 ≤ prevTag l k ∨ 1000000 < (rd_T60 l k).f0 ∨ 1000 < (rd_T60 l k).f1.size then false else fGo (l.drop (k + 1)) (rd_T60 l k).f0 := by
      rw [drop_getD l z60 hlt, fGo]; rfl
    have hn : prevTag l (k + 1) = (rd_T60 l k).f0 := by unfold prevTag; rw [if_neg (by omega)]; rfl
    have hp : prevTag l k = if k = 0 then 0 else (rd_T60 l ((k - 1 : Nat) : Int)).f0 := rfl
    have HN := Lib.hid hn; clear hn
    have hlp := HE.out.2
    have HX := Lib.hid (HE.out.1.trans hx); clear hx HE
    generalize prevTag l k = p at *
    generalize rd_T60 l k = x at *
    generalize rd_T60 l ((k - 1 : Nat) : Int) = y at *
    have b1 : (0 : Int) ≤ k := by omega
    have b2 : (k : Int) < l.length := by omega
    by_cases d0 : x.f0 < 1
    · have HQ := Lib.hid (HD.out false (by rw [HX.out, if_pos (Or.inl (by omega))]))
      clear HX HD hp hlp
      go_wp2_with fail
      go_big_quiet (fail)
      go_wp2
      go_ret
      exact ⟨ret_bool HQ.out.symm, pw_below_drewN HB.out _⟩
    have e0 : decide (x.f0 < 1) = false := decide_eq_false d0
    by_cases d1 : 1000000 < x.f0
    · have HQ := Lib.hid (HD.out false (by rw [HX.out, if_pos (Or.inr (Or.inl d1))]))
      clear HX HD hp hlp
      go_wp2_with fail
      go_big_quiet (fail)
      go_wp2
      go_ret
      exact ⟨ret_bool HQ.out.symm, pw_below_drewN HB.out _⟩
    have e1 : decide (1000000 < x.f0) = false := decide_eq_false d1
    by_cases hk0 : k = 0
    · have hz : ¬ (0 : Int) < k := by omega
      have ez : decide (0 < k) = false := decide_eq_false (by omega)
      rw [if_pos hk0] at hp
      have d3 : ¬ x.f0 ≤ p := by omega
      clear hk0
      by_cases d2 : 1000 < x.f1.size
      · have HQ := Lib.hid (HD.out false (by rw [HX.out, if_pos (Or.inr (Or.inr d2))]))
        have d2' : (1000 : Int) < x.f1.size := by omega
        clear HX HD d2 hp hlp d3
        go_wp2_with fail
        go_big_quiet (fail)
        go_wp2
        go_ret
        exact ⟨ret_bool HQ.out.symm, pw_below_drewN HB.out _⟩
      have d2' : ¬ (1000 : Int) < x.f1.size := by omega
      have e2 : decide ((1000 : Int) < x.f1.size) = false := decide_eq_false d2'
      have HQ := Lib.hid (HX.out.trans (if_neg (by rintro (h | h | h); exact d3 h; exact d1 h; exact d2 h)))
      clear HX HD d2 hp hlp d3
      go_wp2_with fail
      go_big_quiet (fail)
      go_wp2
      go_roundw
      case rel => exact ⟨k + 1, by omega, by go_num, ⟨by rw [HN.out]; exact HQ.out, by rw [HN.out]; omega⟩, ⟨pw_below_drewN HB.out _⟩⟩
      case measure => simp [intOf]; omega
    have hz : (0 : Int) < k := by omega
    have ez : decide (0 < k) = true := decide_eq_true (by omega)
    rw [if_neg hk0] at hp
    subst hp
    have hw : IntKind.i64.wrap ((k : Int) - 1) = ((k - 1 : Nat) : Int) := by rw [IntWalk.i64_in _ ⟨by omega, by omega⟩]; omega
    have b3 : (0 : Int) ≤ ((k - 1 : Nat) : Int) := by omega
    have b4 : ((k - 1 : Nat) : Int) < l.length := by omega
    clear hk0
    by_cases d3 : x.f0 ≤ y.f0
    · have HQ := Lib.hid (HD.out false (by rw [HX.out, if_pos (Or.inl d3)]))
      clear HX HD hlp
      go_wp2_with fail
      go_big_quiet (fail)
      go_wp2
      go_ret
      exact ⟨ret_bool HQ.out.symm, pw_below_drewN HB.out _⟩
    by_cases d2 : 1000 < x.f1.size
    · have HQ := Lib.hid (HD.out false (by rw [HX.out, if_pos (Or.inr (Or.inr d2))]))
      have e3 : decide (x.f0 ≤ y.f0) = false := decide_eq_false d3
      have d2' : (1000 : Int) < x.f1.size := by omega
      clear HX HD d2 hlp
      go_wp2_with fail
      go_big_quiet (fail)
      go_wp2
      go_ret
      exact ⟨ret_bool HQ.out.symm, pw_below_drewN HB.out _⟩
    have d2' : ¬ (1000 : Int) < x.f1.size := by omega
    have e2 : decide ((1000 : Int) < x.f1.size) = false := decide_eq_false d2'
    have e3 : decide (x.f0 ≤ y.f0) = false := decide_eq_false d3
    have HQ := Lib.hid (HX.out.trans (if_neg (by rintro (h | h | h); exact d3 h; exact d1 h; exact d2 h)))
    clear HX HD d2 hlp
    go_wp2_with fail
    go_big_quiet (fail)
    go_wp2
    go_roundw
    case rel => exact ⟨k + 1, by omega, by go_num, ⟨by rw [HN.out]; exact HQ.out, by rw [HN.out]; omega⟩, ⟨pw_below_drewN HB.out _⟩⟩
    case measure => simp [intOf]; omega

def knows (v t : Int) : Bool := decide (1 ≤ t) && (v == 1 && decide (t ≤ 3) || v == 2 && decide (t ≤ 5))

set_option maxHeartbeats 1000000 in
theorem knows_calls (v t : Int) (w : World) :
    Calls Try.prog 80 #[.int .i64 v, .int .i64 t] w fun e w' => e = .returned (.bool (knows v t)) ∧ w = w' := by
  go_enter Try.func80, Try.ntmps80
  go_wp2
  all_goals (go_ret; refine ⟨?_, rfl⟩; simp_all [knows] <;> omega)

end Go.Proofs.Ytadhfedbgeenlaa.H

/- A record's other fields, and records that may be, by the document. -/
namespace Go.Proofs.Ytadhfedbgeenlaa.H
open Go.RowKit Go.Proofs.YtadhfedbgeenlaaW.PrintWords Go.Proofs.YtadhfedbgeenlaaW.PrintLast Go.Proofs.YtadhfedbgeenlaaW.PrintMore
set_option linter.unusedVariables false
set_option linter.unusedSimpArgs false

section
variable {α : Type} {xs : List α} {k : Nat} {p : α → Bool}
theorem all_take_step (d : α) (h : k < xs.length) (h1 : (xs.take k).all p = true) (h2 : p (xs.getD k d) = true) : (xs.take (k + 1)).all p = true := by
  rw [take_getD xs d h, List.all_append, h1]
  simp only [List.all_cons, List.all_nil, h2, Bool.and_self]
theorem all_no (d : α) (h : k < xs.length) (h2 : p (xs.getD k d) = false) : xs.all p = false := by
  have e : xs = xs.take k ++ (xs.getD k d :: xs.drop (k + 1)) := by rw [← drop_getD xs d h, List.take_append_drop]
  rw [e, List.all_append, List.all_cons, h2, Bool.false_and, Bool.and_false]
theorem countP_take_step (d : α) (h : k < xs.length) : (xs.take (k + 1)).countP p = (xs.take k).countP p + (if p (xs.getD k d) = true then 1 else 0) := by
  rw [take_getD xs d h, List.countP_append, List.countP_singleton]
theorem countP_take_le (h : k ≤ xs.length) : (xs.take k).countP p ≤ k := by
  have := List.countP_le_length (p := p) (l := xs.take k)
  rw [List.length_take] at this
  omega
end

def others (f : S60) : Bool := f.f0 != 4 && f.f0 != 5
def extraOk (v : Int) (l : List S60) : Bool := l.all (fun f => !knows v f.f0) && (fieldsOk l && decide (l.countP others ≤ 8))

set_option maxHeartbeats 2000000 in
set_option maxRecDepth 100000 in
theorem extra_calls (v : Int) (A : Option Addr) (c : Nat) (l : List S60) (w : World) (hr : Kd.C k60 w A l.length l) :
    Calls Try.prog 73 #[.int .i64 v, .slice A l.length c] w fun e w' => e = .returned (.bool (extraOk v l)) ∧ Below w.heap.size w w' := by
  have hm : l.length ≤ 9223372036854775807 := hr.2.1
  have HRR := Lib.hid hr; clear hr
  have HD := Lib.hid (show extraOk v l = (l.all (fun f => !knows v f.f0) && (fieldsOk l && decide (l.countP others ≤ 8))) from rfl)
  generalize extraOk v l = r at *
  go_enter Try.func73, Try.ntmps73
  go_wp2
  go_loopw [5, 6] (fun v5 v6 W => ∃ (k n : Nat), k ≤ l.length ∧ n ≤ k ∧ v6 = .int .i64 k ∧ v5 = .int .i64 n ∧ Aside0 ((l.take k).all (fun f => !knows v f.f0) = true ∧ n = (l.take k).countP others) ∧ Aside0 (Below w.heap.size w W)) (fun _ v6 _ => l.length - (intOf v6).toNat)
  case atStart => exact ⟨0, 0, Nat.zero_le _, Nat.zero_le _, rfl, rfl, ⟨rfl, rfl⟩, ⟨Below.refl _ _⟩⟩
  case round =>
    obtain ⟨k, n, hk, hn, rfl, rfl, HE, HB⟩ := hrel
    by_cases hlt : k < l.length
    rotate_left
    · obtain rfl : k = l.length := by omega
      have HQ := Lib.hid (HD.out.trans (by have h := HE.out.1; have h2 := HE.out.2; rw [List.take_length] at h h2; rw [h, ← h2, Bool.true_and] : _ = (fieldsOk l && decide (n ≤ 8))))
      have HC := Lib.hid (field2Right_calls A c l _ (Kd.C_below HRR.out HB.out))
      clear hlt HE HD
      cases hf : fieldsOk l
      · rw [hf] at HC HQ
        clear hf
        go_wp2_with fail
        refine HC.out.mono ?_
        rintro e W1 ⟨rfl, hb⟩
        go_wp2
        go_ret
        exact ⟨ret_bool (HQ.out.trans (Bool.false_and _)).symm, below_then HB.out HB.out.size hb⟩
      rw [hf] at HC HQ
      clear hf
      by_cases hl : n ≤ 8
      · have e1 : (n : Int) ≤ 8 := by omega
        have HS := Lib.hid (HQ.out.trans (by rw [decide_eq_true hl]; rfl : _ = true)); clear hl HQ
        go_wp2_with fail
        refine HC.out.mono ?_
        rintro e W1 ⟨rfl, hb⟩
        go_wp2
        go_ret
        exact ⟨ret_bool HS.out.symm, below_then HB.out HB.out.size hb⟩
      · have e1 : ¬ (n : Int) ≤ 8 := by omega
        have e1' : decide ((n : Int) ≤ 8) = false := decide_eq_false e1
        have HS := Lib.hid (HQ.out.trans (by rw [decide_eq_false hl]; rfl : _ = false)); clear hl HQ
        go_wp2_with fail
        refine HC.out.mono ?_
        rintro e W1 ⟨rfl, hb⟩
        go_wp2
        go_ret
        exact ⟨ret_bool HS.out.symm, below_then HB.out HB.out.size hb⟩
    obtain ⟨ad, hA, h0, h1⟩ := at_T60 HRR.out k (by omega) (by omega)
    subst hA
    rw [Int.toNat_natCast] at h0 h1
    replace h0 := kept_cell HB.out h0
    clear h1
    have HA1 := Lib.hid (fun h => all_take_step (p := fun f => !knows v f.f0) z60 hlt HE.out.1 (show (!knows v (rd_T60 l k).f0) = true from h))
    have HA2 := Lib.hid (fun h => all_no (p := fun f => !knows v f.f0) z60 hlt (show (!knows v (rd_T60 l k).f0) = false from h))
    have HCN := Lib.hid (show (l.take (k + 1)).countP others = n + (if others (rd_T60 l k) = true then 1 else 0) by rw [HE.out.2]; exact countP_take_step z60 hlt)
    generalize rd_T60 l k = x at *
    have b1 : (0 : Int) ≤ k := by omega
    have b2 : (k : Int) < l.length := by omega
    have HKN := Lib.hid (knows_calls v x.f0)
    clear HE
    cases hkn : knows v x.f0
    rotate_left
    · have HQ := Lib.hid (HD.out.trans (by rw [HA2.out (by rw [hkn]; rfl), Bool.false_and]))
      rw [hkn] at HKN
      clear hkn HA1 HA2 HCN HD
      go_wp2_with fail
      refine (HKN.out _).mono ?_
      rintro e W1 ⟨rfl, rfl⟩
      go_wp2
      go_ret
      exact ⟨ret_bool HQ.out.symm, HB.out⟩
    have HQ := Lib.hid (HA1.out (by rw [hkn]; rfl))
    rw [hkn] at HKN
    clear hkn HA1 HA2
    by_cases d4 : x.f0 = 4
    · have q4 : (x.f0 != 4) = false := by simpa using d4
      have HN := Lib.hid (show n = (l.take (k + 1)).countP others by rw [HCN.out, if_neg (by unfold others; rw [q4]; simp)]; rfl)
      clear HCN d4
      go_wp2_with fail
      refine (HKN.out _).mono ?_
      rintro e W1 ⟨rfl, rfl⟩
      go_wp2
      go_roundw
      case rel => exact ⟨k + 1, n, by omega, by omega, by go_num, rfl, ⟨HQ.out, HN.out⟩, ⟨HB.out⟩⟩
      case measure => simp [intOf]; omega
    have q4 : (x.f0 != 4) = true := by simpa using d4
    by_cases d5 : x.f0 = 5
    · have q5 : (x.f0 != 5) = false := by simpa using d5
      have HN := Lib.hid (show n = (l.take (k + 1)).countP others by rw [HCN.out, if_neg (by unfold others; rw [q5]; simp)]; rfl)
      clear HCN d4 d5
      go_wp2_with fail
      refine (HKN.out _).mono ?_
      rintro e W1 ⟨rfl, rfl⟩
      go_wp2
      go_roundw
      case rel => exact ⟨k + 1, n, by omega, by omega, by go_num, rfl, ⟨HQ.out, HN.out⟩, ⟨HB.out⟩⟩
      case measure => simp [intOf]; omega
    have q5 : (x.f0 != 5) = true := by simpa using d5
    have HN := Lib.hid (show n + 1 = (l.take (k + 1)).countP others by rw [HCN.out, if_pos (by unfold others; rw [q4, q5]; rfl)])
    clear HCN d4 d5
    go_wp2_with fail
    refine (HKN.out _).mono ?_
    rintro e W1 ⟨rfl, rfl⟩
    go_wp2
    go_roundw
    case rel => exact ⟨k + 1, n + 1, by omega, by omega, by go_num, by go_num, ⟨HQ.out, HN.out⟩, ⟨HB.out⟩⟩
    case measure => simp [intOf]; omega

end Go.Proofs.Ytadhfedbgeenlaa.H
