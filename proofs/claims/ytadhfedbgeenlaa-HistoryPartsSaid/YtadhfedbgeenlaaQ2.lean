/- Parts of the proof, merged: Hq, Hr, Hs, Ht, Hu. -/
import Derived.Test.YtadhfedbgeenlaaQ1
import Derived.Deep.RegionLaw
/- Ops that may be: table.Check. -/
namespace Go.Proofs.Ytadhfedbgeenlaa.H
open Go.RowKit Go.Proofs.YtadhfedbgeenlaaW.PrintWords Go.Proofs.YtadhfedbgeenlaaW.PrintLast Go.Proofs.YtadhfedbgeenlaaW.PrintMore
set_option linter.unusedVariables false
set_option linter.unusedSimpArgs false

set_option maxHeartbeats 4000000 in
set_option maxRecDepth 100000 in
theorem check_calls (o : S36) (w : World) :
    Calls Try.prog 40 #[.int .i64 2, .agg #[.int .i64 o.f0, .string o.f1, .string o.f2, .int .i64 o.f3, .string o.f4, .int .i64 o.f5, .string o.f6]] w fun e w' => e = .returned (.int .i64 (checkE o)) ∧ Below w.heap.size w w' := by
  have HN := Lib.hid (fun h => checkE_no (o := o) h)
  have HY := Lib.hid (fun h => checkE_yes (o := o) h)
  generalize checkE o = r at *
  generalize hW0 : w.alloc (.cells #[.int .i64 o.f0, .string o.f1, .string o.f2, .int .i64 o.f3, .string o.f4, .int .i64 o.f5, .string o.f6] 36) = W0
  have HB0 := Lib.hid (show Below w.heap.size w W0 by rw [← hW0]; exact below_alloc (Below.refl _ _) _)
  have HK0 := Lib.hid (show W0.heap[w.heap.size]? = some (.cells #[.int .i64 o.f0, .string o.f1, .string o.f2, .int .i64 o.f3, .string o.f4, .int .i64 o.f5, .string o.f6] 36 (0, 0)) by rw [← hW0]; exact new_at rfl _)
  have HW0 := Lib.hid hW0; clear hW0
  obtain ⟨k0, k1, k2, k3, k4, k5, k6, _, kl⟩ := seven_cells HK0.out
  have HLA := Lib.hid (fun w => last_calls 2 w)
  rw [show lastTag 2 = 5 from rfl] at HLA
  have HW3 := Lib.hid (fun w => within1_calls o.f3 w)
  have HW5 := Lib.hid (fun w => within1_calls o.f5 w)
  go_enter Try.func40, Try.ntmps40
  go_upto_region 1 with (fail)
  rw [HW0.out]
  by_cases d0 : o.f0 < 1
  · have HQ := Lib.hid (HN.out (Or.inl d0))
    have g0 : decide (o.f0 < 1) = true := decide_eq_true (by omega)
    clear HN HY
    go_wp2_with fail
    refine (HLA.out _).mono ?_
    rintro e W1 ⟨rfl, rfl⟩
    go_wp2
    go_ret
    exact ⟨ret_int HQ.out.symm, HB0.out⟩
  have g0 : decide (o.f0 < 1) = false := decide_eq_false (by omega)
  by_cases d1 : 6 < o.f0
  · have HQ := Lib.hid (HN.out (Or.inr (Or.inl d1)))
    have g1 : decide (6 < o.f0) = true := decide_eq_true (by omega)
    clear HN HY
    go_wp2_with fail
    refine (HLA.out _).mono ?_
    rintro e W1 ⟨rfl, rfl⟩
    go_wp2
    go_ret
    exact ⟨ret_int HQ.out.symm, HB0.out⟩
  have g1 : decide (6 < o.f0) = false := decide_eq_false (by omega)
  by_cases dk : o.f1 = ⟨#[]⟩
  · have gk := emp_yes dk
    have gk2 := str_none dk
    by_cases d2 : o.f0 = 6
    rotate_left
    · have HQ := Lib.hid (HN.out (Or.inr (Or.inr (Or.inl ⟨dk, d2⟩))))
      have g2 : (o.f0 != 6) = true := by simpa using d2
      clear dk
      clear HN HY
      go_wp2_with fail
      refine (HLA.out _).mono ?_
      rintro e W1 ⟨rfl, rfl⟩
      go_wp2
      go_ret
      exact ⟨ret_int HQ.out.symm, HB0.out⟩
    have g2 : (o.f0 != 6) = false := by simpa using d2
    have DK := Lib.hid d2; clear d2
    have DK2 := Lib.hid dk; clear dk
    by_cases d3 : 16 < o.f1.size
    · have HQ := Lib.hid (HN.out (Or.inr (Or.inr (Or.inr (Or.inl d3)))))
      have g3 : decide ((16 : Int) < o.f1.size) = true := decide_eq_true (by omega)
      clear HN HY
      go_wp2_with fail
      refine (HLA.out _).mono ?_
      rintro e W1 ⟨rfl, rfl⟩
      go_wp2
      go_ret
      exact ⟨ret_int HQ.out.symm, HB0.out⟩
    have g3 : decide ((16 : Int) < o.f1.size) = false := decide_eq_false (by omega)
    by_cases d4 : 16 < o.f4.size
    · have HQ := Lib.hid (HN.out (Or.inr (Or.inr (Or.inr (Or.inr (Or.inl d4))))))
      have g4 : decide ((16 : Int) < o.f4.size) = true := decide_eq_true (by omega)
      clear HN HY
      go_wp2_with fail
      refine (HLA.out _).mono ?_
      rintro e W1 ⟨rfl, rfl⟩
      go_wp2
      go_ret
      exact ⟨ret_int HQ.out.symm, HB0.out⟩
    have g4 : decide ((16 : Int) < o.f4.size) = false := decide_eq_false (by omega)
    by_cases d5 : 200 < o.f2.size
    · have HQ := Lib.hid (HN.out (Or.inr (Or.inr (Or.inr (Or.inr (Or.inr (Or.inl d5)))))))
      have g5 : decide ((200 : Int) < o.f2.size) = true := decide_eq_true (by omega)
      clear HN HY
      go_wp2_with fail
      refine (HLA.out _).mono ?_
      rintro e W1 ⟨rfl, rfl⟩
      go_wp2
      go_ret
      exact ⟨ret_int HQ.out.symm, HB0.out⟩
    have g5 : decide ((200 : Int) < o.f2.size) = false := decide_eq_false (by omega)
    by_cases d6 : 40 < o.f6.size
    · have HQ := Lib.hid (HN.out (Or.inr (Or.inr (Or.inr (Or.inr (Or.inr (Or.inr (Or.inl d6))))))))
      have g6 : decide ((40 : Int) < o.f6.size) = true := decide_eq_true (by omega)
      clear HN HY
      go_wp2_with fail
      refine (HLA.out _).mono ?_
      rintro e W1 ⟨rfl, rfl⟩
      go_wp2
      go_ret
      exact ⟨ret_int HQ.out.symm, HB0.out⟩
    have g6 : decide ((40 : Int) < o.f6.size) = false := decide_eq_false (by omega)
    by_cases d7 : o.f3 < 0
    · have HQ := Lib.hid (HN.out (Or.inr (Or.inr (Or.inr (Or.inr (Or.inr (Or.inr (Or.inr (Or.inl d7)))))))))
      rw [decide_eq_false (show ¬ 0 ≤ o.f3 by omega), Bool.false_and] at HW3
      have g7 : decide (o.f3 < 0) = true := decide_eq_true (by omega)
      clear HN HY
      go_wp2_with fail
      refine (HLA.out _).mono ?_
      rintro e W1 ⟨rfl, rfl⟩
      go_wp2_with fail
      refine (HW3.out _).mono ?_
      rintro e W1 ⟨rfl, rfl⟩
      go_wp2
      go_ret
      exact ⟨ret_int HQ.out.symm, HB0.out⟩
    have g7 : decide (o.f3 < 0) = false := decide_eq_false (by omega)
    by_cases d8 : 9007199254740992 < o.f3
    · have HQ := Lib.hid (HN.out (Or.inr (Or.inr (Or.inr (Or.inr (Or.inr (Or.inr (Or.inr (Or.inr (Or.inl d8))))))))))
      rw [decide_eq_false (show ¬ o.f3 ≤ 9007199254740992 by omega), Bool.and_false] at HW3
      have g8 : decide (9007199254740992 < o.f3) = true := decide_eq_true (by omega)
      clear HN HY
      go_wp2_with fail
      refine (HLA.out _).mono ?_
      rintro e W1 ⟨rfl, rfl⟩
      go_wp2_with fail
      refine (HW3.out _).mono ?_
      rintro e W1 ⟨rfl, rfl⟩
      go_wp2
      go_ret
      exact ⟨ret_int HQ.out.symm, HB0.out⟩
    have g8 : decide (9007199254740992 < o.f3) = false := decide_eq_false (by omega)
    rw [decide_eq_true (show 0 ≤ o.f3 by omega), decide_eq_true (show o.f3 ≤ 9007199254740992 by omega), Bool.true_and] at HW3
    by_cases d9 : o.f5 < 0
    · have HQ := Lib.hid (HN.out (Or.inr (Or.inr (Or.inr (Or.inr (Or.inr (Or.inr (Or.inr (Or.inr (Or.inr (Or.inl d9)))))))))))
      rw [decide_eq_false (show ¬ 0 ≤ o.f5 by omega), Bool.false_and] at HW5
      have g9 : decide (o.f5 < 0) = true := decide_eq_true (by omega)
      clear HN HY
      go_wp2_with fail
      refine (HLA.out _).mono ?_
      rintro e W1 ⟨rfl, rfl⟩
      go_wp2_with fail
      refine (HW3.out _).mono ?_
      rintro e W1 ⟨rfl, rfl⟩
      go_wp2_with fail
      refine (HW5.out _).mono ?_
      rintro e W1 ⟨rfl, rfl⟩
      go_wp2
      go_ret
      exact ⟨ret_int HQ.out.symm, HB0.out⟩
    have g9 : decide (o.f5 < 0) = false := decide_eq_false (by omega)
    by_cases d10 : 9007199254740992 < o.f5
    · have HQ := Lib.hid (HN.out (Or.inr (Or.inr (Or.inr (Or.inr (Or.inr (Or.inr (Or.inr (Or.inr (Or.inr (Or.inr (d10))))))))))))
      rw [decide_eq_false (show ¬ o.f5 ≤ 9007199254740992 by omega), Bool.and_false] at HW5
      have g10 : decide (9007199254740992 < o.f5) = true := decide_eq_true (by omega)
      clear HN HY
      go_wp2_with fail
      refine (HLA.out _).mono ?_
      rintro e W1 ⟨rfl, rfl⟩
      go_wp2_with fail
      refine (HW3.out _).mono ?_
      rintro e W1 ⟨rfl, rfl⟩
      go_wp2_with fail
      refine (HW5.out _).mono ?_
      rintro e W1 ⟨rfl, rfl⟩
      go_wp2
      go_ret
      exact ⟨ret_int HQ.out.symm, HB0.out⟩
    have g10 : decide (9007199254740992 < o.f5) = false := decide_eq_false (by omega)
    rw [decide_eq_true (show 0 ≤ o.f5 by omega), decide_eq_true (show o.f5 ≤ 9007199254740992 by omega), Bool.true_and] at HW5
    have HQ := Lib.hid (HY.out (by rintro (h | h | h | h | h | h | h | h | h | h | h); exact absurd h d0; exact absurd h d1; exact h.2 DK.out; exact d3 h; exact d4 h; exact d5 h; exact d6 h; exact absurd h d7; exact absurd h d8; exact absurd h d9; exact absurd h d10))
    clear HN HY d3 d4 d5 d6
    go_wp2_with fail
    refine (HLA.out _).mono ?_
    rintro e W1 ⟨rfl, rfl⟩
    go_wp2_with fail
    refine (HW3.out _).mono ?_
    rintro e W1 ⟨rfl, rfl⟩
    go_wp2_with fail
    refine (HW5.out _).mono ?_
    rintro e W1 ⟨rfl, rfl⟩
    go_wp2
    go_ret
    exact ⟨ret_int HQ.out.symm, HB0.out⟩
  have gk := emp_no dk
  have gk2 := str_some dk
  have DK := Lib.hid dk; clear dk
  by_cases d3 : 16 < o.f1.size
  · have HQ := Lib.hid (HN.out (Or.inr (Or.inr (Or.inr (Or.inl d3)))))
    have g3 : decide ((16 : Int) < o.f1.size) = true := decide_eq_true (by omega)
    clear HN HY
    go_wp2_with fail
    refine (HLA.out _).mono ?_
    rintro e W1 ⟨rfl, rfl⟩
    go_wp2
    go_ret
    exact ⟨ret_int HQ.out.symm, HB0.out⟩
  have g3 : decide ((16 : Int) < o.f1.size) = false := decide_eq_false (by omega)
  by_cases d4 : 16 < o.f4.size
  · have HQ := Lib.hid (HN.out (Or.inr (Or.inr (Or.inr (Or.inr (Or.inl d4))))))
    have g4 : decide ((16 : Int) < o.f4.size) = true := decide_eq_true (by omega)
    clear HN HY
    go_wp2_with fail
    refine (HLA.out _).mono ?_
    rintro e W1 ⟨rfl, rfl⟩
    go_wp2
    go_ret
    exact ⟨ret_int HQ.out.symm, HB0.out⟩
  have g4 : decide ((16 : Int) < o.f4.size) = false := decide_eq_false (by omega)
  by_cases d5 : 200 < o.f2.size
  · have HQ := Lib.hid (HN.out (Or.inr (Or.inr (Or.inr (Or.inr (Or.inr (Or.inl d5)))))))
    have g5 : decide ((200 : Int) < o.f2.size) = true := decide_eq_true (by omega)
    clear HN HY
    go_wp2_with fail
    refine (HLA.out _).mono ?_
    rintro e W1 ⟨rfl, rfl⟩
    go_wp2
    go_ret
    exact ⟨ret_int HQ.out.symm, HB0.out⟩
  have g5 : decide ((200 : Int) < o.f2.size) = false := decide_eq_false (by omega)
  by_cases d6 : 40 < o.f6.size
  · have HQ := Lib.hid (HN.out (Or.inr (Or.inr (Or.inr (Or.inr (Or.inr (Or.inr (Or.inl d6))))))))
    have g6 : decide ((40 : Int) < o.f6.size) = true := decide_eq_true (by omega)
    clear HN HY
    go_wp2_with fail
    refine (HLA.out _).mono ?_
    rintro e W1 ⟨rfl, rfl⟩
    go_wp2
    go_ret
    exact ⟨ret_int HQ.out.symm, HB0.out⟩
  have g6 : decide ((40 : Int) < o.f6.size) = false := decide_eq_false (by omega)
  by_cases d7 : o.f3 < 0
  · have HQ := Lib.hid (HN.out (Or.inr (Or.inr (Or.inr (Or.inr (Or.inr (Or.inr (Or.inr (Or.inl d7)))))))))
    rw [decide_eq_false (show ¬ 0 ≤ o.f3 by omega), Bool.false_and] at HW3
    have g7 : decide (o.f3 < 0) = true := decide_eq_true (by omega)
    clear HN HY
    go_wp2_with fail
    refine (HLA.out _).mono ?_
    rintro e W1 ⟨rfl, rfl⟩
    go_wp2_with fail
    refine (HW3.out _).mono ?_
    rintro e W1 ⟨rfl, rfl⟩
    go_wp2
    go_ret
    exact ⟨ret_int HQ.out.symm, HB0.out⟩
  have g7 : decide (o.f3 < 0) = false := decide_eq_false (by omega)
  by_cases d8 : 9007199254740992 < o.f3
  · have HQ := Lib.hid (HN.out (Or.inr (Or.inr (Or.inr (Or.inr (Or.inr (Or.inr (Or.inr (Or.inr (Or.inl d8))))))))))
    rw [decide_eq_false (show ¬ o.f3 ≤ 9007199254740992 by omega), Bool.and_false] at HW3
    have g8 : decide (9007199254740992 < o.f3) = true := decide_eq_true (by omega)
    clear HN HY
    go_wp2_with fail
    refine (HLA.out _).mono ?_
    rintro e W1 ⟨rfl, rfl⟩
    go_wp2_with fail
    refine (HW3.out _).mono ?_
    rintro e W1 ⟨rfl, rfl⟩
    go_wp2
    go_ret
    exact ⟨ret_int HQ.out.symm, HB0.out⟩
  have g8 : decide (9007199254740992 < o.f3) = false := decide_eq_false (by omega)
  rw [decide_eq_true (show 0 ≤ o.f3 by omega), decide_eq_true (show o.f3 ≤ 9007199254740992 by omega), Bool.true_and] at HW3
  by_cases d9 : o.f5 < 0
  · have HQ := Lib.hid (HN.out (Or.inr (Or.inr (Or.inr (Or.inr (Or.inr (Or.inr (Or.inr (Or.inr (Or.inr (Or.inl d9)))))))))))
    rw [decide_eq_false (show ¬ 0 ≤ o.f5 by omega), Bool.false_and] at HW5
    have g9 : decide (o.f5 < 0) = true := decide_eq_true (by omega)
    clear HN HY
    go_wp2_with fail
    refine (HLA.out _).mono ?_
    rintro e W1 ⟨rfl, rfl⟩
    go_wp2_with fail
    refine (HW3.out _).mono ?_
    rintro e W1 ⟨rfl, rfl⟩
    go_wp2_with fail
    refine (HW5.out _).mono ?_
    rintro e W1 ⟨rfl, rfl⟩
    go_wp2
    go_ret
    exact ⟨ret_int HQ.out.symm, HB0.out⟩
  have g9 : decide (o.f5 < 0) = false := decide_eq_false (by omega)
  by_cases d10 : 9007199254740992 < o.f5
  · have HQ := Lib.hid (HN.out (Or.inr (Or.inr (Or.inr (Or.inr (Or.inr (Or.inr (Or.inr (Or.inr (Or.inr (Or.inr (d10))))))))))))
    rw [decide_eq_false (show ¬ o.f5 ≤ 9007199254740992 by omega), Bool.and_false] at HW5
    have g10 : decide (9007199254740992 < o.f5) = true := decide_eq_true (by omega)
    clear HN HY
    go_wp2_with fail
    refine (HLA.out _).mono ?_
    rintro e W1 ⟨rfl, rfl⟩
    go_wp2_with fail
    refine (HW3.out _).mono ?_
    rintro e W1 ⟨rfl, rfl⟩
    go_wp2_with fail
    refine (HW5.out _).mono ?_
    rintro e W1 ⟨rfl, rfl⟩
    go_wp2
    go_ret
    exact ⟨ret_int HQ.out.symm, HB0.out⟩
  have g10 : decide (9007199254740992 < o.f5) = false := decide_eq_false (by omega)
  rw [decide_eq_true (show 0 ≤ o.f5 by omega), decide_eq_true (show o.f5 ≤ 9007199254740992 by omega), Bool.true_and] at HW5
  have HQ := Lib.hid (HY.out (by rintro (h | h | h | h | h | h | h | h | h | h | h); exact absurd h d0; exact absurd h d1; exact DK.out h.1; exact d3 h; exact d4 h; exact d5 h; exact d6 h; exact absurd h d7; exact absurd h d8; exact absurd h d9; exact absurd h d10))
  clear HN HY d3 d4 d5 d6
  go_wp2_with fail
  refine (HLA.out _).mono ?_
  rintro e W1 ⟨rfl, rfl⟩
  go_wp2_with fail
  refine (HW3.out _).mono ?_
  rintro e W1 ⟨rfl, rfl⟩
  go_wp2_with fail
  refine (HW5.out _).mono ?_
  rintro e W1 ⟨rfl, rfl⟩
  go_wp2
  go_ret
  exact ⟨ret_int HQ.out.symm, HB0.out⟩

end Go.Proofs.Ytadhfedbgeenlaa.H

/- The document's own. -/
namespace Go.Proofs.Ytadhfedbgeenlaa.H
open Go.RowKit Go.Proofs.YtadhfedbgeenlaaW.PrintWords Go.Proofs.YtadhfedbgeenlaaW.PrintLast Go.Proofs.YtadhfedbgeenlaaW.PrintMore
set_option linter.unusedVariables false
set_option linter.unusedSimpArgs false

theorem R_apart {W : World} {base base' : Nat} {ok ok' : Nat → Prop} {v v3 : Value} {fs : List S60} {xs : List S54} (h : Kd.R k60 60 W base ok v fs) (hN : Kd.N k54 54 W base' ok' v3 xs) : Kd.R k60 60 W base (fun j => ok j ∧ some j ≠ v3.ownBlock) v fs := by
  cases h3 : v3.ownBlock with
  | none => exact Kd.R_mono h (fun k hk => ⟨hk, by simp⟩)
  | some b =>
    obtain ⟨cells, hc⟩ := Kd.N_typed hN b h3
    exact Kd.R_mono (Kd.R_types h hc (by decide)) (fun k hk => ⟨hk.1, fun e => hk.2 (by injection e)⟩)
abbrev NT (W : World) (base : Nat) (v : Value) (l : List S54) : Prop := Kd.N k54 54 W base (fun _ => True) v l
theorem heap_rec : Kd.Heap k54 := Kd.heap_iso _ (Kd.heap_pair Kd.heap_string (Kd.heap_pair Kd.heap_string (Kd.heap_pair (Kd.heap_int _) (Kd.heap_pair (Kd.heap_int _) (Kd.heap_pair Kd.heap_string (Kd.heap_slice _ (Kd.heap_iso _ (Kd.heap_pair (Kd.heap_int _) Kd.heap_string))))))))
theorem heap_field : Kd.Heap k60 := Kd.heap_iso _ (Kd.heap_pair (Kd.heap_int _) Kd.heap_string)

set_option maxHeartbeats 4000000 in
set_option maxRecDepth 100000 in
theorem own2_calls (A : Option Addr) (c : Nat) (l : List S54) (w : World) (hr : Kd.C k54 w A l.length l) (hp : PlainT l) (hlen : l.length ≤ 1000) :
    Calls Try.prog 30 #[.slice A l.length c] w fun e w' => ∃ v, e = .returned v ∧ Kd.N k54 54 w' w.heap.size (fun j => w.heap.size ≤ j) v l ∧ Below w.heap.size w w' := by
  have hm : l.length ≤ 9223372036854775807 := hr.2.1
  have HRR := Lib.hid hr; clear hr
  have HPL := Lib.hid hp; clear hp
  go_enter Try.func30, Try.ntmps30
  go_wp2
  go_loopw [3, 4] (fun v3 v4 W => ∃ (k : Nat) (A3 : Option Addr) (c3 : Nat), k ≤ l.length ∧ v4 = .int .i64 k ∧ v3 = .slice A3 k c3 ∧ Aside0 (Kd.N k54 54 W w.heap.size (fun j => w.heap.size ≤ j) (.slice A3 k c3) (l.take k)) ∧ Aside0 (Below w.heap.size w W)) (fun _ v4 _ => l.length - (intOf v4).toNat)
  case atStart => exact ⟨0, none, 0, Nat.zero_le _, rfl, rfl, ⟨Kd.N_nil _ _ _ _ _⟩, ⟨Below.refl _ _⟩⟩
  case round =>
    obtain ⟨k, A3, c3, hk, rfl, rfl, HO, HB⟩ := hrel
    by_cases hlt : k < l.length
    rotate_left
    · obtain rfl : k = l.length := by omega
      clear hlt
      go_wp2
      go_ret
      have ho := HO.out
      rw [List.take_length] at ho
      exact ⟨_, rfl, ho, HB.out⟩
    obtain ⟨ad, A5, c5, hA, h0, h1, h2, h3, h4, h5, hl, hf⟩ := at_T54 HRR.out k (by omega) (by omega)
    subst hA
    rw [Int.toNat_natCast] at h0 h1 h2 h3 h4 h5
    have H5 := Lib.hid h5
    replace h0 := kept_cell HB.out h0
    replace h1 := kept_cell HB.out h1
    replace h2 := kept_cell HB.out h2
    replace h3 := kept_cell HB.out h3
    replace h4 := kept_cell HB.out h4
    replace h5 := kept_cell HB.out h5
    have HPX := Lib.hid (HPL.out _ (rd_mem hlt))
    have HTK := Lib.hid (take_getD l z54 hlt)
    rw [show l.getD k z54 = rd_T54 l k from rfl] at HTK
    generalize rd_T54 l k = x at *
    have b1 : (0 : Int) ≤ k := by omega
    have b2 : (k : Int) < l.length := by omega
    have HF := Lib.hid hf
    clear hf hl
    go_upto_region 5 with (fail)
    go_cut [5] (fun v5 W => ∃ g : Nat, v5 = .pointer (some ⟨g, 0, none⟩) ∧ Aside0 (Below w.heap.size w W ∧ w.heap.size ≤ g ∧ Kd.N k54 54 W w.heap.size (fun j => w.heap.size ≤ j ∧ j ≠ g) (.slice A3 k c3) (l.take k) ∧ W.heap[g]? = some (.cells #[.string x.f0, .string x.f1, .int .i64 x.f2, .int .i64 x.f3, .string x.f4, .slice A5 x.f5.length c5] 54 (0, 0)) ∧ some g ≠ (Value.slice A3 k c3).ownBlock))
    case first =>
      go_wp2
      go_meet
      case rel =>
        first | exact ⟨_, rfl, ⟨below_alloc HB.out _, HB.out.size, Kd.N_alloc (Kd.N_elderB HO.out _ (Nat.le_refl _)) _, new_at rfl _, fun he => Nat.lt_irrefl _ (Kd.N_lt HO.out _ he.symm)⟩⟩ | ((repeat apply Exists.intro); exact ⟨⟨_, rfl, ⟨below_alloc HB.out _, HB.out.size, Kd.N_alloc (Kd.N_elderB HO.out _ (Nat.le_refl _)) _, new_at rfl _, fun he => Nat.lt_irrefl _ (Kd.N_lt HO.out _ he.symm)⟩⟩, rfl⟩)
    clear h0 h1 h2 h3 h4 h5 HB HO
    obtain ⟨g, rfl, HA⟩ := hcut
    have h5 := kept_cell HA.out.1 H5.out
    obtain ⟨k0, k1, k2, k3, k4, k5, kf, kl⟩ := six_cells HA.out.2.2.2.1
    have kf5 := blk_frozen HA.out.2.2.2.1 5
    go_upto_region 6 with (fail)
    go_cut [21] (fun v21 W => Aside0 (∃ (A6 : Option Addr) (c6 : Nat), Below w.heap.size w W ∧ Kd.N k54 54 W w.heap.size (fun j => w.heap.size ≤ j ∧ j ≠ g) (.slice A3 k c3) (l.take k) ∧ W.heap[g]? = some (.cells #[.string x.f0, .string x.f1, .int .i64 x.f2, .int .i64 x.f3, .string x.f4, .slice A6 x.f5.length c6] 54 (0, 0)) ∧ some g ≠ (Value.slice A3 k c3).ownBlock ∧ x.f5.length ≤ c6 ∧ Kd.F k60 W (fun j => w.heap.size ≤ j ∧ some j ≠ (Value.slice A3 k c3).ownBlock) A6 x.f5.length x.f5))
    case first =>
      have HR0 := Lib.hid (Kd.C_below HF.out HA.out.1)
      have HL0 := Lib.hid HPX.out.2
      go_wp2_with (at_builtin; refine Kd.R_append_rows k60 (w0 := w) w.heap.size rfl (.const (.slice none 0 0)) (.tmp 20) 52 60 (.agg #[(.int .i64 0), (.string ⟨#[]⟩)]) 24 rfl Try.underlying52 info60 rfl (by decide) (by omega) (.slice none 0 0) [] x.f5 _ _ _ (fun _ => True) (fun _ => False) rfl rfl (Kd.R_nil _ _ _ _ _) ?aR (fun _ _ h => h) (fun _ h => h.elim) (fun _ _ => trivial) HA.out.1 HA.out.1.size ?aL ?_; (case aR => exact HR0.out); (case aL => have := HL0.out; simp; omega); intro v1 w1 ho1 hb1 hg1 hat1; obtain ⟨A6, c6, rfl⟩ := Kd.R_slice ho1; have HGw := Lib.hid ((hg1.block _ (blk_lt HA.out.2.2.2.1) (by simp [Value.ownBlock])).trans HA.out.2.2.2.1); have HO1 := Lib.hid ho1; have HB1 := Lib.hid hb1; have HG1 := Lib.hid hg1; clear ho1 hb1 hg1 hat1; obtain ⟨y0, y1, y2, y3, y4, y5, yf, yl⟩ := six_cells HGw.out; have yf5 := blk_frozen HGw.out 5)
      go_meet
      case rel =>
        have hN1 := Kd.N_grown HA.out.2.2.1 HG1.out (fun k _ => by simp [Value.ownBlock])
        have hR1 := Kd.R_reads HO1.out
        obtain ⟨_, _, he6, hl6, _⟩ := hR1
        injection he6 with _ _ hc6
        have ho3 := R_apart (Kd.R_types (Kd.R_bound HO1.out) HGw.out (by decide)) hN1
        exact ⟨A6, c6, below_set HB1.out HA.out.2.1, Kd.N_far (p := ⟨g, 5, none⟩) hN1 (fun k hk => hk.2) _, blk_put HGw.out 5 _ rfl, HA.out.2.2.2.2, by rw [hc6]; exact hl6, Kd.F_mono (Kd.F_far (p := ⟨g, 5, none⟩) (Kd.R_F ho3) (fun k hk => hk.1.2) _) (fun k hk => ⟨hk.1.1.2.1, hk.2⟩)⟩
    clear k0 k1 k2 k3 k4 k5 kf kl kf5 h5 HA
    rename Aside0 _ => HA
    obtain ⟨A6, c6, hb, hN, hg, hne, hl6, hF⟩ := HA.out
    obtain ⟨k0, k1, k2, k3, k4, k5, kf, kl⟩ := six_cells hg
    have HB := Lib.hid hb
    have HNN := Lib.hid (Kd.N_mono hN (fun _ h => h.1) : Kd.N k54 54 wc w.heap.size (fun j => w.heap.size ≤ j) (.slice A3 k c3) (l.take k))
    have HFK := Lib.hid (k54_mkF wc (fun j => w.heap.size ≤ j ∧ some j ≠ (Value.slice A3 k c3).ownBlock) x hl6 hF)
    clear hb hN hg hF HA hne
    go_wp2_with (at_builtin; refine Kd.N_append k54 (w0 := w) w.heap.size rfl (.tmp 23) (.tmp 25) 26 54 (.agg #[(.string ⟨#[]⟩), (.string ⟨#[]⟩), (.int .i64 0), (.int .i64 0), (.string ⟨#[]⟩), (.slice none 0 0)]) 88 rfl Try.underlying26 info54 rfl (by decide) (by omega) (.slice A3 k c3) (l.take k) x [.string x.f0, .string x.f1, .int .i64 x.f2, .int .i64 x.f3, .string x.f4, .slice A6 x.f5.length c6] (fun j => w.heap.size ≤ j) (fun j => w.heap.size ≤ j ∧ some j ≠ (Value.slice A3 k c3).ownBlock) rfl rfl ?aF (fun _ h => h) (fun k hk => Nat.le_trans HB.out.size hk) ?aN ?aB ?aS ?aL ?_; (case aF => exact HFK.out); (case aN => exact HNN.out); (case aB => exact HB.out); (case aS => exact HB.out.size); (case aL => rw [List.length_take]; omega); intro v1 w1 ho1 hb1 hg1 hat1; have hlk : (l.take k ++ [x]).length = k + 1 := (by rw [List.length_append, List.length_take, List.length_singleton]; omega); rw [← HTK.out] at ho1 hlk; obtain ⟨A7, c7, rfl⟩ := Kd.N_slice ho1; rw [hlk] at ho1 ⊢; have HO1 := Lib.hid (And.intro ho1 hb1); clear ho1 hb1 hg1 hat1 hlk)
    go_roundw
    case rel => exact ⟨k + 1, A7, c7, by omega, by go_num, rfl, ⟨HO1.out.1⟩, ⟨HO1.out.2⟩⟩
    case measure => simp [intOf]; omega

end Go.Proofs.Ytadhfedbgeenlaa.H

/- The document's at, fault and with. -/
namespace Go.Proofs.Ytadhfedbgeenlaa.H
open Go.RowKit Go.Proofs.YtadhfedbgeenlaaW.PrintWords Go.Proofs.YtadhfedbgeenlaaW.PrintLast Go.Proofs.YtadhfedbgeenlaaW.PrintMore
set_option linter.unusedVariables false
set_option linter.unusedSimpArgs false

/-- A key's place. -/
def posGo : List S54 → ByteArray → Nat → Option Nat
  | [], _, _ => none
  | x :: xs, key, i => if x.f0 = key then some i else posGo xs key (i + 1)
def posK (l : List S54) (key : ByteArray) : Option Nat := posGo l key 0
def posI : Option Nat → Int
  | none => -1
  | some i => i

set_option maxHeartbeats 1000000 in
set_option maxRecDepth 100000 in
theorem at2_calls (A : Option Addr) (c : Nat) (l : List S54) (key : ByteArray) (w : World) (hr : Kd.C k54 w A l.length l) :
    Calls Try.prog 33 #[.slice A l.length c, .string key] w fun e w' => e = .returned (.int .i64 (posI (posK l key))) ∧ w = w' := by
  have hm : l.length ≤ 9223372036854775807 := hr.2.1
  have HRR := Lib.hid hr; clear hr
  have HD := Lib.hid (show ∀ b, posGo l key 0 = b → posI (posK l key) = posI b from fun b h => by unfold posK; rw [h])
  generalize posI (posK l key) = r at *
  go_enter Try.func33, Try.ntmps33
  go_wp2
  go_loopw [5] (fun v5 W => ∃ k : Nat, k ≤ l.length ∧ v5 = .int .i64 k ∧ Aside0 (posGo l key 0 = posGo (l.drop k) key k) ∧ W = w) (fun v5 _ => l.length - (intOf v5).toNat)
  case atStart => exact ⟨0, Nat.zero_le _, rfl, ⟨rfl⟩, rfl⟩
  case round =>
    obtain ⟨k, hk, rfl, HE, rfl⟩ := hrel
    by_cases hlt : k < l.length
    rotate_left
    · obtain rfl : k = l.length := by omega
      have HQ := Lib.hid (HD.out none (by rw [HE.out, List.drop_length]; rfl))
      clear hlt HE HD
      go_wp2
      go_ret
      exact ⟨ret_int HQ.out.symm, rfl⟩
    obtain ⟨ad, A5, c5, hA, h0, h1, h2, h3, h4, h5, hl, hf⟩ := at_T54 HRR.out k (by omega) (by omega)
    subst hA
    rw [Int.toNat_natCast] at h0
    clear h1 h2 h3 h4 h5 hl hf
    have hx : posGo (l.drop k) key k = if (rd_T54 l k).f0 = key then some k else posGo (l.drop (k + 1)) key (k + 1) := by
      rw [drop_getD l z54 hlt, posGo]; rfl
    have HX := Lib.hid (HE.out.trans hx); clear hx HE
    generalize rd_T54 l k = x at *
    have b1 : (0 : Int) ≤ k := by omega
    have b2 : (k : Int) < l.length := by omega
    by_cases dd : x.f0 = key
    · have q := str_yes dd
      have HQ := Lib.hid (HD.out (some k) (HX.out.trans (if_pos dd)))
      clear dd HX HD
      go_wp2
      go_ret
      exact ⟨ret_int HQ.out.symm, rfl⟩
    have q := str_no dd
    have HQ := Lib.hid (HX.out.trans (if_neg dd))
    clear dd HX HD
    go_wp2
    go_roundw
    case rel => exact ⟨k + 1, by omega, by go_num, ⟨HQ.out⟩, trivial⟩
    case measure => simp [intOf]; omega

theorem ret_P1 {fn : Func} {a : Act} {W : World} {g p : Nat} {x y z u : Value} {R : Ending → World → Prop} (hres : fn.results = #[.cell p 34]) (hp : a.tmps.getD p undef = .pointer (some ⟨g, 0, none⟩)) (hd : a.defers = [])
    (hg : W.heap[g]? = some (.cells #[x, y, z, u] 34 (0, 0))) (hR : R (.returned (.agg #[x, y, z, u])) W) : bodyPost Try.prog fn R .ret a W := by
  refine bodyPost_ret (v := .agg #[x, y, z, u]) ?_ hd hR
  exact results_single hres (.cell g 34 _ (0, 0) _ hp hg Try.underlying34 rfl (by kernel_rfl) .nil)
theorem ret_TP {fn : Func} {a : Act} {W : World} {g p q : Nat} {x y z u v : Value} {R : Ending → World → Prop} (hres : fn.results = #[.tmp q, .cell p 34]) (hp : a.tmps.getD p undef = .pointer (some ⟨g, 0, none⟩)) (hq : a.tmps.getD q undef = v) (hd : a.defers = [])
    (hg : W.heap[g]? = some (.cells #[x, y, z, u] 34 (0, 0))) (hR : R (.returned (.tuple #[v, .agg #[x, y, z, u]])) W) : bodyPost Try.prog fn R .ret a W := by
  refine bodyPost_ret (v := .tuple #[v, .agg #[x, y, z, u]]) ?_ hd hR
  have h := results_list (P := Try.prog) (fn := fn) (tmps := a.tmps) (w := W) (rs := [.tmp q, .cell p 34]) (vs := [v, .agg #[x, y, z, u]]) hres (by simp)
    (hq ▸ .tmp (.cell g 34 _ (0, 0) _ hp hg Try.underlying34 rfl (by kernel_rfl) .nil))
  simpa using h

theorem fault2_calls (n : Int) (w : World) :
    Calls Try.prog 32 #[.int .i64 n] w fun e w' => e = .returned (.agg #[.int .i64 n, .int .i64 0, .string ⟨#[]⟩, .slice none 0 0]) ∧ Below w.heap.size w w' := by
  go_enter Try.func32, Try.ntmps32
  go_wp2
  exact ret_P1 Try.results32 rfl rfl (new_at rfl _) ⟨rfl, below_alloc (Below.refl _ _) _⟩
theorem fault_calls (n : Int) (w : World) :
    Calls Try.prog 41 #[.int .i64 n] w fun e w' => e = .returned (.agg #[.int .i64 n, .int .i64 0, .string ⟨#[]⟩, .slice none 0 0]) ∧ Below w.heap.size w w' := by
  go_enter Try.func41, Try.ntmps41
  go_wp2
  exact ret_P1 Try.results41 rfl rfl (new_at rfl _) ⟨rfl, below_alloc (Below.refl _ _) _⟩

end Go.Proofs.Ytadhfedbgeenlaa.H

/- The document's with. -/
namespace Go.Proofs.Ytadhfedbgeenlaa.H
open Go.RowKit Go.Proofs.YtadhfedbgeenlaaW.PrintWords Go.Proofs.YtadhfedbgeenlaaW.PrintLast Go.Proofs.YtadhfedbgeenlaaW.PrintMore
set_option linter.unusedVariables false
set_option linter.unusedSimpArgs false

def insR : List S54 → S54 → List S54
  | [], r => [r]
  | x :: xs, r => if kLe x.f0 r.f0 = false then r :: x :: xs else x :: insR xs r
theorem atF {W : World} {ok : Nat → Prop} {A : Option Addr} {n : Nat} {xs : List S54} (h : Kd.F k54 W ok A n xs) (i : Int) (h0 : 0 ≤ i) (h1 : i < n) : ∃ ad A5 c5, A = some ad ∧ W.cell? (ad.add (i.toNat * 6)) = some (.string (rd_T54 xs i).f0) ∧ W.cell? ⟨(ad.add (i.toNat * 6)).block, (ad.add (i.toNat * 6)).off + 1, none⟩ = some (.string (rd_T54 xs i).f1) ∧ W.cell? ⟨(ad.add (i.toNat * 6)).block, (ad.add (i.toNat * 6)).off + 2, none⟩ = some (.int .i64 (rd_T54 xs i).f2) ∧ W.cell? ⟨(ad.add (i.toNat * 6)).block, (ad.add (i.toNat * 6)).off + 3, none⟩ = some (.int .i64 (rd_T54 xs i).f3) ∧ W.cell? ⟨(ad.add (i.toNat * 6)).block, (ad.add (i.toNat * 6)).off + 4, none⟩ = some (.string (rd_T54 xs i).f4) ∧ W.cell? ⟨(ad.add (i.toNat * 6)).block, (ad.add (i.toNat * 6)).off + 5, none⟩ = some (.slice A5 (rd_T54 xs i).f5.length c5) ∧ (rd_T54 xs i).f5.length ≤ c5 ∧ Kd.F k60 W ok A5 (rd_T54 xs i).f5.length (rd_T54 xs i).f5 := by
  obtain ⟨ad, c, e, _, hK, hc0⟩ := Kd.F_get h z54 i h0 h1
  have hc : ∀ j u, c[j]? = some u → W.cell? (ad.add (i.toNat * 6 + j)) = some u := hc0.1
  obtain ⟨A5, c5, rfl, l5, g5⟩ := k54_openF hK
  exact ⟨ad, A5, c5, e, hc 0 _ rfl, by rw [← add_field _ _ 1 (by omega)]; exact hc 1 _ rfl, by rw [← add_field _ _ 2 (by omega)]; exact hc 2 _ rfl, by rw [← add_field _ _ 3 (by omega)]; exact hc 3 _ rfl, by rw [← add_field _ _ 4 (by omega)]; exact hc 4 _ rfl, by rw [← add_field _ _ 5 (by omega)]; exact hc 5 _ rfl, l5, g5⟩
theorem insR_len : ∀ (l : List S54) (r : S54), (insR l r).length = l.length + 1
  | [], r => rfl
  | x :: xs, r => by
    rw [insR]
    split
    · rfl
    · rw [List.length_cons, insR_len xs r]; rfl
theorem below_mono {W W2 : World} (h : Below W.heap.size W W2) : Below W.heap.size W W2 := h
theorem Kd.FK_drewN' {α : Type} {d : Kd α} {W : World} {ok : Nat → Prop} {x : α} {c : List Value} (h : Kd.FK d W ok x c) (n : Nat) : Kd.FK d (W.drewN n) ok x c := Kd.FK_below h (pw_below_drewN (Below.refl _ _) n)
theorem ins_step (l : List S54) (r : S54) (k : Nat) (h : k < l.length) : insR (l.drop k) r = if kLe (rd_T54 l k).f0 r.f0 = false then r :: rd_T54 l k :: l.drop (k + 1) else rd_T54 l k :: insR (l.drop (k + 1)) r := by
  rw [drop_getD l z54 h, insR]; rfl

set_option maxHeartbeats 4000000 in
set_option maxRecDepth 100000 in
theorem with2_calls (A : Option Addr) (c : Nat) (l : List S54) (key val : ByteArray) (w : World) (okf : Nat → Prop) (hr : Kd.F k54 w okf A l.length l) (hlen : l.length ≤ 1000) :
    Calls Try.prog 55 #[.slice A l.length c, .agg #[.string key, .string val, .int .i64 1, .int .i64 0, .string ⟨#[]⟩, .slice none 0 0]] w fun e w' => ∃ v, e = .returned v ∧ Kd.N k54 54 w' w.heap.size (fun j => okf j ∨ w.heap.size ≤ j) v (insR l ⟨key, val, 1, 0, ⟨#[]⟩, []⟩) ∧ Below w.heap.size w w' := by
  have hm : l.length ≤ 9223372036854775807 := Kd.F_max hr
  have HRR := Lib.hid hr; clear hr
  obtain ⟨r, hr⟩ : ∃ r : S54, r = ⟨key, val, 1, 0, ⟨#[]⟩, []⟩ := ⟨_, rfl⟩
  have HRE := Lib.hid hr
  rw [← hr]
  have hrk : r.f0 = key := by rw [hr]
  have HRK := Lib.hid hrk
  clear hr hrk
  generalize hW0 : w.alloc (.cells #[.string key, .string val, .int .i64 1, .int .i64 0, .string ⟨#[]⟩, .slice none 0 0] 54) = W0
  have HB0 := Lib.hid (show Below w.heap.size w W0 by rw [← hW0]; exact below_alloc (Below.refl _ _) _)
  have HSZ := Lib.hid (show W0.heap.size = w.heap.size + 1 by rw [← hW0]; simp)
  have HK0 := Lib.hid (show W0.heap[w.heap.size]? = some (.cells #[.string key, .string val, .int .i64 1, .int .i64 0, .string ⟨#[]⟩, .slice none 0 0] 54 (0, 0)) by rw [← hW0]; exact new_at rfl _)
  have HSZW := Lib.hid (show w.heap.size ≤ W0.heap.size ∧ True by rw [← hW0]; exact ⟨by simp, trivial⟩)
  have HW0 := Lib.hid hW0; clear hW0
  have HFR := Lib.hid (fun (W : World) (ok : Nat → Prop) => (by rw [HRE.out]; exact k54_mkF W ok ⟨key, val, 1, 0, ⟨#[]⟩, []⟩ (Nat.le_refl 0) (Kd.F_nil _ _ _) : Kd.FK k54 W ok r [.string key, .string val, .int .i64 1, .int .i64 0, .string ⟨#[]⟩, .slice none 0 0]))
  go_enter Try.func55, Try.ntmps55
  go_upto_region 1 with (fail)
  rw [HW0.out]
  clear HW0
  go_wp2
  go_loopw [5, 6, 7] (fun v5 v6 v7 W => ∃ (k m : Nat) (d : Bool) (A3 : Option Addr) (c3 : Nat) (acc : List S54), k ≤ l.length ∧ m = acc.length ∧ m ≤ k + 1 ∧ v7 = .int .i64 k ∧ v6 = .bool d ∧ v5 = .slice A3 m c3 ∧ Aside0 (Kd.N k54 54 W W0.heap.size (fun j => okf j ∨ w.heap.size ≤ j) (.slice A3 m c3) acc ∧ Below W0.heap.size W0 W ∧ insR l r = acc ++ (if d = true then l.drop k else insR (l.drop k) r) ∧ (d = false → m ≤ k))) (fun _ _ v7 _ => l.length - (intOf v7).toNat)
  case atStart => exact ⟨0, 0, false, none, 0, [], Nat.zero_le _, rfl, by omega, rfl, rfl, rfl, ⟨Kd.N_nil _ _ _ _ _, Below.refl _ _, rfl, fun _ => Nat.le_refl _⟩⟩
  case round =>
    obtain ⟨k, m, d, A3, c3, acc, hk, hma, hmk, rfl, rfl, rfl, HI⟩ := hrel
    have HMA := Lib.hid hma; clear hma
    have HNN := Lib.hid HI.out.1
    have HB := Lib.hid HI.out.2.1
    have HE := Lib.hid HI.out.2.2.1
    have HMK := Lib.hid HI.out.2.2.2
    have HBW := Lib.hid (below_then HB0.out HB0.out.size HB.out)
    clear HI
    by_cases hlt : k < l.length
    rotate_left
    · obtain rfl : k = l.length := by omega
      cases d
      · have HQ := Lib.hid (show insR l r = acc ++ [r] by rw [HE.out, List.drop_length]; rfl)
        obtain ⟨j0, j1, j2, j3, j4, j5, _, jl⟩ := six_cells (kept_on HB.out HK0.out)
        clear hlt HE
        go_wp2_with (at_builtin; refine Kd.N_append k54 (w0 := W0) W0.heap.size rfl (.tmp 39) (.tmp 41) 26 54 (.agg #[(.string ⟨#[]⟩), (.string ⟨#[]⟩), (.int .i64 0), (.int .i64 0), (.string ⟨#[]⟩), (.slice none 0 0)]) 88 rfl Try.underlying26 info54 rfl (by decide) (by omega) (.slice A3 m c3) acc r [.string key, .string val, .int .i64 1, .int .i64 0, .string ⟨#[]⟩, .slice none 0 0] (fun j => okf j ∨ w.heap.size ≤ j) (fun _ => False) rfl rfl ?aF ?aK (fun k hk => Or.inr (Nat.le_trans HSZW.out.1 (Nat.le_trans (HB.out).size hk))) ?aN ?aB ?aS ?aL ?_; (case aF => exact HFR.out _ _); (case aK => exact (fun _ h => h.elim)); (case aN => exact HNN.out); (case aB => exact HB.out); (case aS => exact (HB.out).size); (case aL => have := HMA.out; omega); intro v1 w1 ho1 hb1 hg1 hat1; rw [← HQ.out] at ho1; have HO1 := Lib.hid (And.intro ho1 hb1); clear ho1 hb1 hg1 hat1)
        go_ret
        exact ⟨_, rfl, Kd.N_lower HO1.out.1 HB0.out.size, below_then HB0.out HB0.out.size (below_mono HO1.out.2)⟩
      · have HQ := Lib.hid (show insR l r = acc by rw [HE.out, List.drop_length]; simp)
        clear hlt HE
        go_wp2
        go_ret
        exact ⟨_, rfl, by rw [HQ.out]; exact Kd.N_lower HNN.out HB0.out.size, HBW.out⟩
    obtain ⟨ad, A5, c5, hA, h0, h1, h2, h3, h4, h5, hl, hf⟩ := atF HRR.out k (by omega) (by omega)
    subst hA
    rw [Int.toNat_natCast] at h0 h1 h2 h3 h4 h5
    have HX := Lib.hid (And.intro h0 (And.intro h1 (And.intro h2 (And.intro h3 (And.intro h4 h5)))))
    have HD := Lib.hid (show l.drop k = rd_T54 l k :: l.drop (k + 1) from drop_getD l z54 hlt)
    have HIS := Lib.hid (ins_step l r k hlt)
    generalize rd_T54 l k = x at *
    have HFX := Lib.hid (fun (W : World) (hb : Below w.heap.size w W) => (k54_mkF W (fun j => okf j ∧ j < w.heap.size) x hl (Kd.F_below (Kd.F_bound hf) hb) : Kd.FK k54 W (fun j => okf j ∧ j < w.heap.size) x [.string x.f0, .string x.f1, .int .i64 x.f2, .int .i64 x.f3, .string x.f4, .slice A5 x.f5.length c5]))
    have HOX := Lib.hid (fun (A : Option Addr) (n c : Nat) (W : World) (xs : List S54) (hN : Kd.N k54 54 W W0.heap.size (fun j => okf j ∨ w.heap.size ≤ j) (.slice A n c) xs) (j : Nat) (hj : j < w.heap.size) => (fun e => by have := Kd.N_base hN j e.symm; have := HSZ.out; omega : some j ≠ (Value.slice A n c).ownBlock))
    clear h0 h1 h2 h3 h4 h5 hl hf
    obtain ⟨h0, h1, h2, h3, h4, h5⟩ := HX.out
    replace h0 := kept_cell HBW.out h0
    replace h1 := kept_cell HBW.out h1
    replace h2 := kept_cell HBW.out h2
    replace h3 := kept_cell HBW.out h3
    replace h4 := kept_cell HBW.out h4
    replace h5 := kept_cell HBW.out h5
    obtain ⟨j0, j1, j2, j3, j4, j5, _, jl⟩ := six_cells (kept_on HB.out HK0.out)
    have b1 : (0 : Int) ≤ k := by omega
    have b2 : (k : Int) < l.length := by omega
    cases d
    rotate_left
    · have HE2 := Lib.hid (HE.out.trans (by rw [if_pos rfl, HD.out] : _ = acc ++ (x :: l.drop (k + 1))))
      clear HE HD HIS
      go_wp2_with fail
      go_big_quiet (fail)
      go_wp2_with (at_builtin; refine Kd.N_append k54 (w0 := W0) W0.heap.size rfl (.tmp 30) (.tmp 35) 26 54 (.agg #[(.string ⟨#[]⟩), (.string ⟨#[]⟩), (.int .i64 0), (.int .i64 0), (.string ⟨#[]⟩), (.slice none 0 0)]) 88 rfl Try.underlying26 info54 rfl (by decide) (by omega) (.slice A3 m c3) acc x [.string x.f0, .string x.f1, .int .i64 x.f2, .int .i64 x.f3, .string x.f4, .slice A5 x.f5.length c5] (fun j => okf j ∨ w.heap.size ≤ j) (fun j => okf j ∧ j < w.heap.size) rfl rfl ?aF ?aK (fun k hk => Or.inr (Nat.le_trans HSZW.out.1 (Nat.le_trans (pw_below_drewN HB.out nq).size hk))) ?aN ?aB ?aS ?aL ?_; (case aF => exact Kd.FK_drewN' (HFX.out _ HBW.out) nq); (case aK => exact (fun j h => ⟨Or.inl h.1, HOX.out _ _ _ _ _ HNN.out j h.2⟩)); (case aN => exact Kd.N_drewN HNN.out nq); (case aB => exact pw_below_drewN HB.out nq); (case aS => exact (pw_below_drewN HB.out nq).size); (case aL => have := HMA.out; omega); intro v1 w1 ho1 hb1 hg1 hat1; have hlk : (acc ++ [x]).length = m + 1 := (by rw [List.length_append, List.length_singleton, ← HMA.out]); obtain ⟨A7, c7, rfl⟩ := Kd.N_slice ho1; rw [hlk] at ho1 ⊢; have HO1 := Lib.hid (And.intro ho1 hb1); clear ho1 hb1 hg1 hat1 hlk)
      go_roundw
      case rel => exact ⟨k + 1, m + 1, true, A7, c7, acc ++ [x], by omega, by rw [List.length_append, List.length_singleton, ← HMA.out], by omega, by go_num, rfl, rfl, ⟨HO1.out.1, HO1.out.2, by rw [HE2.out, List.append_assoc]; rfl, (fun h => by cases h)⟩⟩
      case measure => simp [intOf]; omega
    cases hc1 : kLt x.f0 r.f0
    rotate_left
    · have e1 : Op.bytesLess x.f0.toList key.toList = true := by rw [← HRK.out]; exact hc1
      have hle : ¬ kLe x.f0 r.f0 = false := by unfold kLe; rw [hc1]; simp
      have HE2 := Lib.hid (HE.out.trans (by rw [if_neg (by decide), HIS.out, if_neg hle] : _ = acc ++ (x :: insR (l.drop (k + 1)) r)))
      clear HE HD HIS hle hc1
      go_wp2_with fail
      go_big_quiet (fail)
      go_wp2_with (at_builtin; refine Kd.N_append k54 (w0 := W0) W0.heap.size rfl (.tmp 30) (.tmp 35) 26 54 (.agg #[(.string ⟨#[]⟩), (.string ⟨#[]⟩), (.int .i64 0), (.int .i64 0), (.string ⟨#[]⟩), (.slice none 0 0)]) 88 rfl Try.underlying26 info54 rfl (by decide) (by omega) (.slice A3 m c3) acc x [.string x.f0, .string x.f1, .int .i64 x.f2, .int .i64 x.f3, .string x.f4, .slice A5 x.f5.length c5] (fun j => okf j ∨ w.heap.size ≤ j) (fun j => okf j ∧ j < w.heap.size) rfl rfl ?aF ?aK (fun k hk => Or.inr (Nat.le_trans HSZW.out.1 (Nat.le_trans (pw_below_drewN HB.out nq).size hk))) ?aN ?aB ?aS ?aL ?_; (case aF => exact Kd.FK_drewN' (HFX.out _ HBW.out) nq); (case aK => exact (fun j h => ⟨Or.inl h.1, HOX.out _ _ _ _ _ HNN.out j h.2⟩)); (case aN => exact Kd.N_drewN HNN.out nq); (case aB => exact pw_below_drewN HB.out nq); (case aS => exact (pw_below_drewN HB.out nq).size); (case aL => have := HMA.out; omega); intro v1 w1 ho1 hb1 hg1 hat1; have hlk : (acc ++ [x]).length = m + 1 := (by rw [List.length_append, List.length_singleton, ← HMA.out]); obtain ⟨A7, c7, rfl⟩ := Kd.N_slice ho1; rw [hlk] at ho1 ⊢; have HO1 := Lib.hid (And.intro ho1 hb1); clear ho1 hb1 hg1 hat1 hlk)
      go_roundw
      case rel => exact ⟨k + 1, m + 1, false, A7, c7, acc ++ [x], by omega, by rw [List.length_append, List.length_singleton, ← HMA.out], by omega, by go_num, rfl, rfl, ⟨HO1.out.1, HO1.out.2, by rw [HE2.out, List.append_assoc]; rfl, (fun _ => by have := HMK.out (by trivial); omega)⟩⟩
      case measure => simp [intOf]; omega
    have e1 : Op.bytesLess x.f0.toList key.toList = false := by rw [← HRK.out]; exact hc1
    cases hc2 : (x.f0.toList == r.f0.toList)
    rotate_left
    · have e2 : (x.f0.toList == key.toList) = true := by rw [← HRK.out]; exact hc2
      have hle : ¬ kLe x.f0 r.f0 = false := by unfold kLe; rw [hc1, hc2]; simp
      have HE2 := Lib.hid (HE.out.trans (by rw [if_neg (by decide), HIS.out, if_neg hle] : _ = acc ++ (x :: insR (l.drop (k + 1)) r)))
      clear HE HD HIS hle hc1 hc2
      go_wp2_with fail
      go_big_quiet (fail)
      go_wp2_with (at_builtin; refine Kd.N_append k54 (w0 := W0) W0.heap.size rfl (.tmp 30) (.tmp 35) 26 54 (.agg #[(.string ⟨#[]⟩), (.string ⟨#[]⟩), (.int .i64 0), (.int .i64 0), (.string ⟨#[]⟩), (.slice none 0 0)]) 88 rfl Try.underlying26 info54 rfl (by decide) (by omega) (.slice A3 m c3) acc x [.string x.f0, .string x.f1, .int .i64 x.f2, .int .i64 x.f3, .string x.f4, .slice A5 x.f5.length c5] (fun j => okf j ∨ w.heap.size ≤ j) (fun j => okf j ∧ j < w.heap.size) rfl rfl ?aF ?aK (fun k hk => Or.inr (Nat.le_trans HSZW.out.1 (Nat.le_trans (pw_below_drewN HB.out nq).size hk))) ?aN ?aB ?aS ?aL ?_; (case aF => exact Kd.FK_drewN' (HFX.out _ HBW.out) nq); (case aK => exact (fun j h => ⟨Or.inl h.1, HOX.out _ _ _ _ _ HNN.out j h.2⟩)); (case aN => exact Kd.N_drewN HNN.out nq); (case aB => exact pw_below_drewN HB.out nq); (case aS => exact (pw_below_drewN HB.out nq).size); (case aL => have := HMA.out; omega); intro v1 w1 ho1 hb1 hg1 hat1; have hlk : (acc ++ [x]).length = m + 1 := (by rw [List.length_append, List.length_singleton, ← HMA.out]); obtain ⟨A7, c7, rfl⟩ := Kd.N_slice ho1; rw [hlk] at ho1 ⊢; have HO1 := Lib.hid (And.intro ho1 hb1); clear ho1 hb1 hg1 hat1 hlk)
      go_roundw
      case rel => exact ⟨k + 1, m + 1, false, A7, c7, acc ++ [x], by omega, by rw [List.length_append, List.length_singleton, ← HMA.out], by omega, by go_num, rfl, rfl, ⟨HO1.out.1, HO1.out.2, by rw [HE2.out, List.append_assoc]; rfl, (fun _ => by have := HMK.out (by trivial); omega)⟩⟩
      case measure => simp [intOf]; omega
    have e2 : (x.f0.toList == key.toList) = false := by rw [← HRK.out]; exact hc2
    have hle : kLe x.f0 r.f0 = false := by unfold kLe; rw [hc1, hc2]; rfl
    have HE2 := Lib.hid (HE.out.trans (by rw [if_neg (by decide), HIS.out, if_pos hle] : _ = acc ++ (r :: x :: l.drop (k + 1))))
    clear HE HD HIS hle hc1 hc2
    go_wp2_with fail
    go_big_quiet (fail)
    go_upto_region 7 with (fail)
    go_cut [5] (fun v5 W => ∃ (A7 : Option Addr) (c7 : Nat), v5 = .slice A7 (m + 1) c7 ∧ Aside0 (Kd.N k54 54 W W0.heap.size (fun j => okf j ∨ w.heap.size ≤ j) (.slice A7 (m + 1) c7) (acc ++ [r]) ∧ Below W0.heap.size W0 W))
    case first =>
      go_wp2_with (at_builtin; refine Kd.N_append k54 (w0 := W0) W0.heap.size rfl (.tmp 26) (.tmp 28) 26 54 (.agg #[(.string ⟨#[]⟩), (.string ⟨#[]⟩), (.int .i64 0), (.int .i64 0), (.string ⟨#[]⟩), (.slice none 0 0)]) 88 rfl Try.underlying26 info54 rfl (by decide) (by omega) (.slice A3 m c3) acc r [.string key, .string val, .int .i64 1, .int .i64 0, .string ⟨#[]⟩, .slice none 0 0] (fun j => okf j ∨ w.heap.size ≤ j) (fun _ => False) rfl rfl ?aF ?aK (fun k hk => Or.inr (Nat.le_trans HSZW.out.1 (Nat.le_trans (pw_below_drewN HB.out nq).size hk))) ?aN ?aB ?aS ?aL ?_; (case aF => exact HFR.out _ _); (case aK => exact (fun _ h => h.elim)); (case aN => exact Kd.N_drewN HNN.out nq); (case aB => exact pw_below_drewN HB.out nq); (case aS => exact (pw_below_drewN HB.out nq).size); (case aL => have := HMA.out; omega); intro v1 w1 ho1 hb1 hg1 hat1; have hlk : (acc ++ [r]).length = m + 1 := (by rw [List.length_append, List.length_singleton, ← HMA.out]); obtain ⟨A7, c7, rfl⟩ := Kd.N_slice ho1; rw [hlk] at ho1 ⊢; have HO1 := Lib.hid (And.intro ho1 hb1); clear ho1 hb1 hg1 hat1 hlk)
      go_meet
      case rel => first | exact ⟨_, _, rfl, ⟨HO1.out.1, HO1.out.2⟩⟩ | ((repeat apply Exists.intro); exact ⟨⟨_, _, rfl, ⟨HO1.out.1, HO1.out.2⟩⟩, rfl⟩)
    clear h0 h1 h2 h3 h4 h5 j0 j1 j2 j3 j4 j5 jl HNN HB HBW
    obtain ⟨A7, c7, rfl, HA⟩ := hcut
    have HBW := Lib.hid (below_then HB0.out HB0.out.size HA.out.2)
    obtain ⟨h0, h1, h2, h3, h4, h5⟩ := HX.out
    replace h0 := kept_cell HBW.out h0
    replace h1 := kept_cell HBW.out h1
    replace h2 := kept_cell HBW.out h2
    replace h3 := kept_cell HBW.out h3
    replace h4 := kept_cell HBW.out h4
    replace h5 := kept_cell HBW.out h5
    go_wp2_with (at_builtin; refine Kd.N_append k54 (w0 := W0) W0.heap.size rfl (.tmp 30) (.tmp 35) 26 54 (.agg #[(.string ⟨#[]⟩), (.string ⟨#[]⟩), (.int .i64 0), (.int .i64 0), (.string ⟨#[]⟩), (.slice none 0 0)]) 88 rfl Try.underlying26 info54 rfl (by decide) (by omega) (.slice A7 (m + 1) c7) (acc ++ [r]) x [.string x.f0, .string x.f1, .int .i64 x.f2, .int .i64 x.f3, .string x.f4, .slice A5 x.f5.length c5] (fun j => okf j ∨ w.heap.size ≤ j) (fun j => okf j ∧ j < w.heap.size) rfl rfl ?aF ?aK (fun k hk => Or.inr (Nat.le_trans HSZW.out.1 (Nat.le_trans (HA.out.2).size hk))) ?aN ?aB ?aS ?aL ?_; (case aF => exact HFX.out _ HBW.out); (case aK => exact (fun j h => ⟨Or.inl h.1, HOX.out _ _ _ _ _ HA.out.1 j h.2⟩)); (case aN => exact HA.out.1); (case aB => exact HA.out.2); (case aS => exact (HA.out.2).size); (case aL => rw [List.length_append, List.length_singleton]; have := HMA.out; omega); intro v1 w1 ho1 hb1 hg1 hat1; have hlk : ((acc ++ [r]) ++ [x]).length = m + 1 + 1 := (by rw [List.length_append, List.length_append, List.length_singleton, List.length_singleton, ← HMA.out]); obtain ⟨A8, c8, rfl⟩ := Kd.N_slice ho1; rw [hlk] at ho1 ⊢; have HO1 := Lib.hid (And.intro ho1 hb1); clear ho1 hb1 hg1 hat1 hlk)
    go_roundw
    case rel => exact ⟨k + 1, m + 1 + 1, true, A8, c8, acc ++ [r] ++ [x], by omega, by rw [List.length_append, List.length_append, List.length_singleton, List.length_singleton, ← HMA.out], by have := HMK.out (by trivial); omega, by go_num, rfl, rfl, ⟨HO1.out.1, HO1.out.2, by rw [HE2.out, List.append_assoc, List.append_assoc]; rfl, (fun h => by cases h)⟩⟩
    case measure => simp [intOf]; omega

end Go.Proofs.Ytadhfedbgeenlaa.H

/- The document's scan. -/
namespace Go.Proofs.Ytadhfedbgeenlaa.H
open Go.RowKit Go.Proofs.YtadhfedbgeenlaaW.PrintWords Go.Proofs.YtadhfedbgeenlaaW.PrintLast Go.Proofs.YtadhfedbgeenlaaW.PrintMore
set_option linter.unusedVariables false
set_option linter.unusedSimpArgs false

section
variable {P : Program} {ops : Array Oper} {rest : List Oper} {o : Oper} {a : Act} {Q : Exit → Act → World → Prop} {Kc : Act → World → Prop} {α : Type}
theorem append_drew (d : Kd α) {w0 W : World} (base : Nat) (hw : Region.wanted o (yielded ops a.tmps) = true) (s x : Operand) (t e : TypeId) (z : Value) (bytes : Nat)
    (ho : o.op = .call { callee := .builtin .append, args := #[s, x], argTypes := #[t, t] })
    (ht : P.underlying t = some (.slice e)) (hinfo : (P.info? e).map (fun i => (i.zero, i.size, i.bytes)) = some (some z, d.sz, bytes)) (hz : z.cells.size = d.sz) (hs0 : 0 < d.sz) (hb0 : 0 < bytes)
    (v : Value) (xs : List α) (p : α) (cs : List Value) (ok okp : Nat → Prop) (hs : a.eval s = v) (hx : a.eval x = .slice (some ⟨W.heap.size, 0, none⟩) 1 1) (hp : d.M W.drew base okp p cs) (hokp : ∀ k, okp k → ok k ∧ some k ≠ v.ownBlock) (hfresh : ∀ k, W.heap.size ≤ k → ok k)
    (HO : d.R e W base ok v xs) (HB : Below base w0 W) (hbase : base ≤ W.heap.size) (hl : (xs.length + 1) * bytes ≤ 140737488355328)
    (h : ∀ v1 w1, d.R e w1 base ok v1 (xs ++ [p]) → Below base w0 w1 → W.grownBy w1 v.ownBlock → (v1.ownBlock = v.ownBlock ∨ ∃ b, v1.ownBlock = some b ∧ W.heap.size ≤ b) → Kc (a.put o.dst v1) w1) :
    if Region.wanted o (yielded ops a.tmps) = true then Oper.wp P o a ((W.alloc (.cells cs.toArray e)).drew) Kc Q else Kc (a.put o.dst undef) ((W.alloc (.cells cs.toArray e)).drew) :=
  Kd.R_append_step (W := W.drew) d base hw s x t e z bytes ho ht hinfo hz hs0 hb0 v xs p cs ok okp hs hx hp hokp hfresh (Kd.R_move HO (fun _ _ => rfl)) (below_drew HB) hbase hl (fun v1 w1 h1 h2 h3 h4 => h v1 w1 h1 h2 ⟨h3.os, h3.tape, h3.output, h3.size, h3.block⟩ h4)
end


def sel (key hi : ByteArray) (x : S54) : Bool := !kLt x.f0 key && (hi.toList.isEmpty || kLt x.f0 hi)
def scanD (l : List S54) (key hi : ByteArray) : List ByteArray := ((l.filter (sel key hi)).map (·.f0)).take 5
def scanR (l : List S54) (key hi : ByteArray) (n : Nat) : List ByteArray := ((l.filter (sel key hi)).map (·.f0)).take (5 - n)
theorem scan_skip {l : List S54} {key hi : ByteArray} {k n : Nat} (h : k < l.length) (hs : sel key hi (rd_T54 l k) = false) : scanR (l.drop k) key hi n = scanR (l.drop (k + 1)) key hi n := by
  unfold scanR
  rw [drop_getD l z54 h, List.filter_cons_of_neg (by rw [show l.getD k z54 = rd_T54 l k from rfl, hs]; decide)]
theorem scan_take {l : List S54} {key hi : ByteArray} {k n : Nat} (h : k < l.length) (hn : n < 5) (hs : sel key hi (rd_T54 l k) = true) : scanR (l.drop k) key hi n = (rd_T54 l k).f0 :: scanR (l.drop (k + 1)) key hi (n + 1) := by
  unfold scanR
  rw [drop_getD l z54 h, List.filter_cons_of_pos (by rw [show l.getD k z54 = rd_T54 l k from rfl, hs]), List.map_cons, show 5 - n = (5 - (n + 1)) + 1 by omega, List.take_succ_cons]
  rfl
/-- The scan's world: the op, the result's variable, the reply's. -/
def ScanW (w : World) (o : S36) (A7 : Option Addr) (c7 : Nat) (acc : List ByteArray) (W : World) : Prop :=
  Below w.heap.size w W ∧ W.heap[w.heap.size]? = some (.cells #[.int .i64 o.f0, .string o.f1, .string o.f2, .int .i64 o.f3, .string o.f4, .int .i64 o.f5, .string o.f6] 36 (0, 0)) ∧ W.heap[w.heap.size + 1]? = some (.cells #[.int .i64 0, .int .i64 0, .string ⟨#[]⟩, .slice none 0 0] 34 (0, 0)) ∧
    W.heap[w.heap.size + 2]? = some (.cells #[.int .i64 0, .int .i64 0, .string ⟨#[]⟩, .slice A7 acc.length c7] 34 (0, 0)) ∧ Kd.R Kd.string 9 W w.heap.size (fun _ => True) (.slice A7 acc.length c7) acc

set_option maxHeartbeats 4000000 in
set_option maxRecDepth 100000 in
theorem scan2_calls (A : Option Addr) (c : Nat) (l : List S54) (o : S36) (w : World) (hr : Kd.C k54 w A l.length l) :
    Calls Try.prog 34 #[.slice A l.length c, .agg #[.int .i64 o.f0, .string o.f1, .string o.f2, .int .i64 o.f3, .string o.f4, .int .i64 o.f5, .string o.f6]] w fun e w' => ∃ v, e = .returned (.agg #[.int .i64 0, .int .i64 0, .string ⟨#[]⟩, v]) ∧ Kd.R Kd.string 9 w' w.heap.size (fun _ => True) v (scanD l o.f1 o.f4) ∧ Below w.heap.size w w' := by
  have hm : l.length ≤ 9223372036854775807 := hr.2.1
  have HRR := Lib.hid hr; clear hr
  have HSD := Lib.hid (show scanD l o.f1 o.f4 = [] ++ scanR (l.drop 0) o.f1 o.f4 0 from rfl)
  generalize scanD l o.f1 o.f4 = r at *
  generalize hW0 : ((w.alloc (.cells #[.int .i64 o.f0, .string o.f1, .string o.f2, .int .i64 o.f3, .string o.f4, .int .i64 o.f5, .string o.f6] 36)).alloc (.cells #[.int .i64 0, .int .i64 0, .string ⟨#[]⟩, .slice none 0 0] 34)).alloc (.cells #[.int .i64 0, .int .i64 0, .string ⟨#[]⟩, .slice none 0 0] 34) = W0
  have HS0 := Lib.hid (show ScanW w o none 0 [] W0 by
    rw [← hW0]
    exact ⟨below_alloc (below_alloc (below_alloc (Below.refl _ _) _) _) _, alloc_on (alloc_on (new_at rfl _) _) _, alloc_on (new_at (by simp) _) _, new_at (by simp) _, Kd.R_nil _ _ _ _ _⟩)
  have HW0 := Lib.hid hW0; clear hW0
  go_enter Try.func34, Try.ntmps34
  go_upto_region 2 with (fail)
  rw [HW0.out]
  clear HW0
  go_wp2
  go_loopw [6] (fun v6 W => ∃ (k : Nat) (A7 : Option Addr) (c7 : Nat) (acc : List ByteArray), k ≤ l.length ∧ v6 = .int .i64 k ∧ Aside0 (ScanW w o A7 c7 acc W ∧ acc.length ≤ 5 ∧ r = acc ++ scanR (l.drop k) o.f1 o.f4 acc.length)) (fun v6 _ => l.length - (intOf v6).toNat)
  case atStart => exact ⟨0, none, 0, [], Nat.zero_le _, rfl, ⟨HS0.out, by decide, HSD.out⟩⟩
  case round =>
    obtain ⟨k, A7, c7, acc, hk, rfl, HI⟩ := hrel
    clear HS0 HSD
    obtain ⟨hb, hg3, hg4, hg5, hro⟩ := HI.out.1
    have HB := Lib.hid hb
    have HG3 := Lib.hid hg3
    have HG4 := Lib.hid hg4
    have HG5 := Lib.hid hg5
    have HRO := Lib.hid hro
    have HE := Lib.hid HI.out.2.2
    have ha5 := HI.out.2.1
    obtain ⟨m, hma⟩ : ∃ m, m = acc.length := ⟨_, rfl⟩
    rw [← hma] at ha5 hg5 HG5 HRO HE
    have HMA := Lib.hid hma
    obtain ⟨p0, p1, p2, p3, p4, p5, p6, _, pl⟩ := seven_cells hg3
    obtain ⟨t0, t1, t2, t3, _, tl⟩ := four_cells hg4
    obtain ⟨r0, r1, r2, r3, _, rl⟩ := four_cells hg5
    have t0f := blk_frozen hg4 0
    have t1f := blk_frozen hg4 1
    have t2f := blk_frozen hg4 2
    have t3f := blk_frozen hg4 3
    have r3f := blk_frozen hg5 3
    clear HI hb hg3 hg4 hg5 hro hma
    by_cases hlt : k < l.length
    rotate_left
    · obtain rfl : k = l.length := by omega
      have HQ := Lib.hid (show r = acc by rw [HE.out, List.drop_length]; simp [scanR])
      clear hlt HE r3f
      go_wp2
      exact ret_P1 Try.results34 rfl rfl (blk_put (blk_put (blk_put (blk_put HG4.out 0 _ rfl) 1 _ rfl) 2 _ rfl) 3 _ rfl) ⟨_, rfl, by rw [HQ.out]; exact Kd.R_set (Kd.R_set (Kd.R_set (Kd.R_set HRO.out HG4.out (by decide) 0 _) (blk_put HG4.out 0 _ rfl) (by decide) 1 _) (blk_put (blk_put HG4.out 0 _ rfl) 1 _ rfl) (by decide) 2 _) (blk_put (blk_put (blk_put HG4.out 0 _ rfl) 1 _ rfl) 2 _ rfl) (by decide) 3 _, below_set (below_set (below_set (below_set HB.out (by omega)) (by omega)) (by omega)) (by omega)⟩
    have bk : (k : Int) < l.length := by omega
    by_cases h5 : m < 5
    rotate_left
    · have e5 : ¬ (m : Int) < 5 := by omega
      have e5' : decide ((m : Int) < 5) = false := decide_eq_false e5
      have HQ := Lib.hid (show r = acc by rw [HE.out]; unfold scanR; rw [show 5 - m = 0 by omega]; simp)
      clear HE r3f
      go_wp2
      exact ret_P1 Try.results34 rfl rfl (blk_put (blk_put (blk_put (blk_put HG4.out 0 _ rfl) 1 _ rfl) 2 _ rfl) 3 _ rfl) ⟨_, rfl, by rw [HQ.out]; exact Kd.R_set (Kd.R_set (Kd.R_set (Kd.R_set HRO.out HG4.out (by decide) 0 _) (blk_put HG4.out 0 _ rfl) (by decide) 1 _) (blk_put (blk_put HG4.out 0 _ rfl) 1 _ rfl) (by decide) 2 _) (blk_put (blk_put (blk_put HG4.out 0 _ rfl) 1 _ rfl) 2 _ rfl) (by decide) 3 _, below_set (below_set (below_set (below_set HB.out (by omega)) (by omega)) (by omega)) (by omega)⟩
    have e5 : (m : Int) < 5 := by omega
    have e5' : decide ((m : Int) < 5) = true := decide_eq_true e5
    obtain ⟨ad, A5, c5, hA, h0, h1, h2, h3, h4, h5', hl, hf⟩ := at_T54 HRR.out k (by omega) (by omega)
    subst hA
    rw [Int.toNat_natCast] at h0
    clear h1 h2 h3 h4 h5' hl hf
    replace h0 := kept_cell HB.out h0
    have HSK := Lib.hid (fun hs => HE.out.trans (by rw [scan_skip hlt hs] : _ = acc ++ scanR (l.drop (k + 1)) o.f1 o.f4 m))
    have HTK := Lib.hid (fun hs => HE.out.trans (by rw [scan_take hlt h5 hs] : _ = acc ++ ((rd_T54 l k).f0 :: scanR (l.drop (k + 1)) o.f1 o.f4 (m + 1))))
    generalize rd_T54 l k = x at *
    have b1 : (0 : Int) ≤ k := by omega
    clear HE t0 t1 t2 t3 t0f t1f t2f t3f tl
    cases hc1 : kLt x.f0 o.f1
    rotate_left
    · have e1 : Op.bytesLess x.f0.toList o.f1.toList = true := hc1
      have HE2 := Lib.hid (HSK.out (by unfold sel; rw [hc1]; rfl))
      clear HSK HTK r3f
      go_wp2_with fail
      go_big_quiet (fail)
      go_wp2
      go_roundw
      case rel => exact ⟨k + 1, A7, c7, acc, by omega, by go_num, ⟨⟨pw_below_drewN HB.out nq, HG3.out, HG4.out, by rw [← HMA.out]; exact HG5.out, by rw [← HMA.out]; exact Kd.R_move HRO.out (fun _ _ => rfl)⟩, by rw [← HMA.out]; omega, by rw [← HMA.out]; exact HE2.out⟩⟩
      case measure => simp [intOf]; omega
    have e1 : Op.bytesLess x.f0.toList o.f1.toList = false := hc1
    cases hc2 : o.f4.toList.isEmpty
    rotate_left
    · have HE2 := Lib.hid (HTK.out (by unfold sel; rw [hc1, hc2]; rfl))
      clear HSK HTK r3f
      go_wp2_with fail
      go_big_quiet (fail)
      go_upto_region 6 with (fail)
      have HBq := Lib.hid (pw_below_drewN HB.out nq)
      have HG3q := Lib.hid (show (wr.drewN nq).heap[w.heap.size]? = _ from HG3.out)
      have HG4q := Lib.hid (show (wr.drewN nq).heap[w.heap.size + 1]? = _ from HG4.out)
      have HG5q := Lib.hid (show (wr.drewN nq).heap[w.heap.size + 2]? = _ from HG5.out)
      have HROq := Lib.hid (show Kd.R Kd.string 9 (wr.drewN nq) w.heap.size (fun _ => True) (.slice A7 m c7) acc from Kd.R_move HRO.out (fun _ _ => rfl))
      have h0q : (wr.drewN nq).cell? (ad.add (k * 6)) = some (.string x.f0) := h0
      clear h0 p0 p1 p2 p3 p4 p5 p6 pl r0 r1 r2 r3 rl HB HG3 HG4 HG5 HRO
      generalize wr.drewN nq = W3 at *
      obtain ⟨r0, r1, r2, r3, _, rl⟩ := four_cells HG5q.out
      have r3f := blk_frozen HG5q.out 3
      have hbase := HBq.out.size
      have hne := Lib.hid (Kd.R_ne HROq.out HG5q.out (by decide))
      have hne3 := Lib.hid (Kd.R_ne HROq.out HG3q.out (by decide))
      have hne4 := Lib.hid (Kd.R_ne HROq.out HG4q.out (by decide))
      go_region_law (refine append_drew Kd.string (w0 := w) w.heap.size (by rfl) (.tmp 43) (.tmp 49) 32 9 (.string ⟨#[]⟩) 16 (by rfl) Try.underlying32 info9 (by rfl) (by decide) (by omega) (.slice A7 m c7) acc x.f0 [.string x.f0] (fun _ => True) (fun _ => False) (by rfl) (by rfl) rfl (fun _ h => h.elim) (fun _ _ => trivial) HROq.out HBq.out hbase (by have := HMA.out; omega) ?_; intro v2 w2 ho hb hg hat; obtain ⟨A8, c8, rfl⟩ := Kd.R_slice ho; have HLK := Lib.hid (by rw [List.length_append, List.length_singleton, ← HMA.out] : (acc ++ [x.f0]).length = m + 1); rw [HLK.out] at ho ⊢; have HGw := Lib.hid ((hg.block _ (blk_lt HG5q.out) hne.out).trans HG5q.out); have HGw3 := Lib.hid ((hg.block _ (blk_lt HG3q.out) hne3.out).trans HG3q.out); have HGw4 := Lib.hid ((hg.block _ (blk_lt HG4q.out) hne4.out).trans HG4q.out); have HOB := Lib.hid (And.intro ho hb); obtain ⟨x0, x1, x2, x3, _, xl⟩ := four_cells HGw.out; have x3f := blk_frozen HGw.out 3; clear ho hb hg hat)
      all_goals
        go_wp2
        go_roundw
        case rel => exact ⟨k + 1, A8, c8, acc ++ [x.f0], by omega, by go_num, ⟨⟨below_set HOB.out.2 (by omega), blk_far HGw3.out (p := ⟨w.heap.size + 2, 3, none⟩) (by show w.heap.size ≠ w.heap.size + 2; omega) _, blk_far HGw4.out (p := ⟨w.heap.size + 2, 3, none⟩) (by show w.heap.size + 1 ≠ w.heap.size + 2; omega) _, by rw [HLK.out]; exact blk_put HGw.out 3 _ rfl, by rw [HLK.out]; exact Kd.R_set HOB.out.1 HGw.out (by decide) 3 _⟩, by rw [List.length_append, List.length_singleton, ← HMA.out]; omega, by rw [HE2.out, List.append_assoc, List.length_append, List.length_singleton, ← HMA.out]; rfl⟩⟩
        case measure => simp [intOf]; omega
    cases hc3 : kLt x.f0 o.f4
    · have e3 : Op.bytesLess x.f0.toList o.f4.toList = false := hc3
      have HE2 := Lib.hid (HSK.out (by unfold sel; rw [hc1, hc2, hc3]; rfl))
      clear HSK HTK r3f
      go_wp2_with fail
      go_big_quiet (fail)
      go_wp2
      go_roundw
      case rel => exact ⟨k + 1, A7, c7, acc, by omega, by go_num, ⟨⟨pw_below_drewN HB.out nq, HG3.out, HG4.out, by rw [← HMA.out]; exact HG5.out, by rw [← HMA.out]; exact Kd.R_move HRO.out (fun _ _ => rfl)⟩, by rw [← HMA.out]; omega, by rw [← HMA.out]; exact HE2.out⟩⟩
      case measure => simp [intOf]; omega
    have e3 : Op.bytesLess x.f0.toList o.f4.toList = true := hc3
    have HE2 := Lib.hid (HTK.out (by unfold sel; rw [hc1, hc2, hc3]; rfl))
    clear HSK HTK r3f
    go_wp2_with fail
    go_big_quiet (fail)
    go_upto_region 6 with (fail)
    have HBq := Lib.hid (pw_below_drewN HB.out nq)
    have HG3q := Lib.hid (show (wr.drewN nq).heap[w.heap.size]? = _ from HG3.out)
    have HG4q := Lib.hid (show (wr.drewN nq).heap[w.heap.size + 1]? = _ from HG4.out)
    have HG5q := Lib.hid (show (wr.drewN nq).heap[w.heap.size + 2]? = _ from HG5.out)
    have HROq := Lib.hid (show Kd.R Kd.string 9 (wr.drewN nq) w.heap.size (fun _ => True) (.slice A7 m c7) acc from Kd.R_move HRO.out (fun _ _ => rfl))
    have h0q : (wr.drewN nq).cell? (ad.add (k * 6)) = some (.string x.f0) := h0
    clear h0 p0 p1 p2 p3 p4 p5 p6 pl r0 r1 r2 r3 rl HB HG3 HG4 HG5 HRO
    generalize wr.drewN nq = W3 at *
    obtain ⟨r0, r1, r2, r3, _, rl⟩ := four_cells HG5q.out
    have r3f := blk_frozen HG5q.out 3
    have hbase := HBq.out.size
    have hne := Lib.hid (Kd.R_ne HROq.out HG5q.out (by decide))
    have hne3 := Lib.hid (Kd.R_ne HROq.out HG3q.out (by decide))
    have hne4 := Lib.hid (Kd.R_ne HROq.out HG4q.out (by decide))
    go_region_law (refine append_drew Kd.string (w0 := w) w.heap.size (by rfl) (.tmp 43) (.tmp 49) 32 9 (.string ⟨#[]⟩) 16 (by rfl) Try.underlying32 info9 (by rfl) (by decide) (by omega) (.slice A7 m c7) acc x.f0 [.string x.f0] (fun _ => True) (fun _ => False) (by rfl) (by rfl) rfl (fun _ h => h.elim) (fun _ _ => trivial) HROq.out HBq.out hbase (by have := HMA.out; omega) ?_; intro v2 w2 ho hb hg hat; obtain ⟨A8, c8, rfl⟩ := Kd.R_slice ho; have HLK := Lib.hid (by rw [List.length_append, List.length_singleton, ← HMA.out] : (acc ++ [x.f0]).length = m + 1); rw [HLK.out] at ho ⊢; have HGw := Lib.hid ((hg.block _ (blk_lt HG5q.out) hne.out).trans HG5q.out); have HGw3 := Lib.hid ((hg.block _ (blk_lt HG3q.out) hne3.out).trans HG3q.out); have HGw4 := Lib.hid ((hg.block _ (blk_lt HG4q.out) hne4.out).trans HG4q.out); have HOB := Lib.hid (And.intro ho hb); obtain ⟨x0, x1, x2, x3, _, xl⟩ := four_cells HGw.out; have x3f := blk_frozen HGw.out 3; clear ho hb hg hat)
    all_goals
      go_wp2
      go_roundw
      case rel => exact ⟨k + 1, A8, c8, acc ++ [x.f0], by omega, by go_num, ⟨⟨below_set HOB.out.2 (by omega), blk_far HGw3.out (p := ⟨w.heap.size + 2, 3, none⟩) (by show w.heap.size ≠ w.heap.size + 2; omega) _, blk_far HGw4.out (p := ⟨w.heap.size + 2, 3, none⟩) (by show w.heap.size + 1 ≠ w.heap.size + 2; omega) _, by rw [HLK.out]; exact blk_put HGw.out 3 _ rfl, by rw [HLK.out]; exact Kd.R_set HOB.out.1 HGw.out (by decide) 3 _⟩, by rw [List.length_append, List.length_singleton, ← HMA.out]; omega, by rw [HE2.out, List.append_assoc, List.length_append, List.length_singleton, ← HMA.out]; rfl⟩⟩
      case measure => simp [intOf]; omega

end Go.Proofs.Ytadhfedbgeenlaa.H
