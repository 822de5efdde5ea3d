/- Parts of the proof, merged: Hk, Hl, Hm, Hn, Ho, Hp. -/
import Derived.Test.YtadhfedbgeenlaaQ0
/- Records that may be, by the document. -/
namespace Go.Proofs.Ytadhfedbgeenlaa.H
open Go.RowKit Go.Proofs.YtadhfedbgeenlaaW.PrintWords Go.Proofs.YtadhfedbgeenlaaW.PrintLast Go.Proofs.YtadhfedbgeenlaaW.PrintMore
set_option linter.unusedVariables false
set_option linter.unusedSimpArgs false

theorem str_empty : (⟨#[]⟩ : ByteArray).toList = [] := by rw [ByteArray.toList_eq]
theorem str_none {a : ByteArray} (h : a = ⟨#[]⟩) : a.toList = [] := by rw [h]; exact str_empty
theorem str_some {a : ByteArray} (h : ¬ a = ⟨#[]⟩) : ¬ a.toList = [] := fun e => h ((str_beq a ⟨#[]⟩).1 (by rw [e, str_empty]; rfl))
def noRec (v : Int) (x : S54) : Prop := ¬ (v = 1 ∨ v = 2) ∨ x.f0.size < 1 ∨ 16 < x.f0.size ∨ 200 < x.f1.size ∨ x.f2 < 0 ∨ 9007199254740992 < x.f2 ∨ (v = 1 ∧ (¬ x.f3 = 0 ∨ ¬ x.f4 = ⟨#[]⟩)) ∨ x.f3 < 0 ∨ 9007199254740992 < x.f3 ∨ 40 < x.f4.size
instance (v : Int) (x : S54) : Decidable (noRec v x) := by unfold noRec; infer_instance
def recOk (v : Int) (x : S54) : Bool := if noRec v x then false else extraOk v x.f5
theorem recOk_no {v : Int} {x : S54} (h : noRec v x) : recOk v x = false := if_pos h
theorem recOk_yes {v : Int} {x : S54} (h : ¬ noRec v x) : recOk v x = extraOk v x.f5 := if_neg h

set_option maxHeartbeats 4000000 in
set_option maxRecDepth 100000 in
theorem rec2Right_calls (v : Int) (x : S54) (A : Option Addr) (ca : Nat) (w : World) (hx : Kd.C k60 w A x.f5.length x.f5) :
    Calls Try.prog 52 #[.int .i64 v, .agg #[.string x.f0, .string x.f1, .int .i64 x.f2, .int .i64 x.f3, .string x.f4, .slice A x.f5.length ca]] w fun e w' => e = .returned (.bool (recOk v x)) ∧ Below w.heap.size w w' := by
  have HRX := Lib.hid hx; clear hx
  have HN := Lib.hid (fun h => recOk_no (v := v) (x := x) h)
  have HY := Lib.hid (fun h => recOk_yes (v := v) (x := x) h)
  generalize recOk v x = r at *
  generalize hW0 : w.alloc (.cells #[.string x.f0, .string x.f1, .int .i64 x.f2, .int .i64 x.f3, .string x.f4, .slice A x.f5.length ca] 54) = W0
  have HB0 := Lib.hid (show Below w.heap.size w W0 by rw [← hW0]; exact below_alloc (Below.refl _ _) _)
  have HK0 := Lib.hid (show W0.heap[w.heap.size]? = some (.cells #[.string x.f0, .string x.f1, .int .i64 x.f2, .int .i64 x.f3, .string x.f4, .slice A x.f5.length ca] 54 (0, 0)) by rw [← hW0]; exact new_at rfl _)
  have HW0 := Lib.hid hW0; clear hW0
  obtain ⟨k0, k1, k2, k3, k4, k5, _, kl⟩ := six_cells HK0.out
  go_enter Try.func52, Try.ntmps52
  go_upto_region 1 with (fail)
  rw [HW0.out]
  by_cases dv : v = 1 ∨ v = 2
  rotate_left
  · have HQ := Lib.hid (HN.out (Or.inl dv))
    have v1 : (v != 1) = true := by simp; omega
    have v2 : (v != 2) = true := by simp; omega
    clear HN HY dv
    go_wp2
    go_ret
    exact ⟨ret_bool HQ.out.symm, HB0.out⟩
  rcases dv with rfl | rfl
  · have v1 : ((1 : Int) != 1) = false := rfl
    have v1' : ((1 : Int) == 1) = true := rfl
    by_cases d1 : x.f0.size < 1
    · have HQ := Lib.hid (HN.out (Or.inr (Or.inl d1)))
      have g1 : decide ((x.f0.size : Int) < 1) = true := decide_eq_true (by omega)
      clear HN HY
      go_wp2
      go_ret
      exact ⟨ret_bool HQ.out.symm, HB0.out⟩
    have g1 : decide ((x.f0.size : Int) < 1) = false := decide_eq_false (by omega)
    by_cases d2 : 16 < x.f0.size
    · have HQ := Lib.hid (HN.out (Or.inr (Or.inr (Or.inl d2))))
      have g2 : decide ((16 : Int) < x.f0.size) = true := decide_eq_true (by omega)
      clear HN HY
      go_wp2
      go_ret
      exact ⟨ret_bool HQ.out.symm, HB0.out⟩
    have g2 : decide ((16 : Int) < x.f0.size) = false := decide_eq_false (by omega)
    by_cases d3 : 200 < x.f1.size
    · have HQ := Lib.hid (HN.out (Or.inr (Or.inr (Or.inr (Or.inl d3)))))
      have g3 : decide ((200 : Int) < x.f1.size) = true := decide_eq_true (by omega)
      clear HN HY
      go_wp2
      go_ret
      exact ⟨ret_bool HQ.out.symm, HB0.out⟩
    have g3 : decide ((200 : Int) < x.f1.size) = false := decide_eq_false (by omega)
    by_cases d4 : x.f2 < 0
    · have HQ := Lib.hid (HN.out (Or.inr (Or.inr (Or.inr (Or.inr (Or.inl d4))))))
      have g4 : decide (x.f2 < 0) = true := decide_eq_true (by omega)
      clear HN HY
      go_wp2
      go_ret
      exact ⟨ret_bool HQ.out.symm, HB0.out⟩
    have g4 : decide (x.f2 < 0) = false := decide_eq_false (by omega)
    by_cases d5 : 9007199254740992 < x.f2
    · have HQ := Lib.hid (HN.out (Or.inr (Or.inr (Or.inr (Or.inr (Or.inr (Or.inl d5)))))))
      have g5 : decide (9007199254740992 < x.f2) = true := decide_eq_true (by omega)
      clear HN HY
      go_wp2
      go_ret
      exact ⟨ret_bool HQ.out.symm, HB0.out⟩
    have g5 : decide (9007199254740992 < x.f2) = false := decide_eq_false (by omega)
    by_cases d6 : x.f3 = 0
    rotate_left
    · have HQ := Lib.hid (HN.out (Or.inr (Or.inr (Or.inr (Or.inr (Or.inr (Or.inr (Or.inl ⟨rfl, Or.inl d6⟩))))))))
      have g6 : (x.f3 != 0) = true := by simpa using d6
      clear HN HY
      go_wp2
      go_ret
      exact ⟨ret_bool HQ.out.symm, HB0.out⟩
    have g6 : (x.f3 != 0) = false := by simpa using d6
    have D6 := Lib.hid d6; clear d6
    by_cases d7 : x.f4 = ⟨#[]⟩
    rotate_left
    · have HQ := Lib.hid (HN.out (Or.inr (Or.inr (Or.inr (Or.inr (Or.inr (Or.inr (Or.inl ⟨rfl, Or.inr d7⟩))))))))
      have g7 := str_some d7
      clear HN HY
      go_wp2
      go_ret
      exact ⟨ret_bool HQ.out.symm, HB0.out⟩
    have g7 := str_none d7
    have D7 := Lib.hid d7; clear d7
    by_cases d8 : x.f3 < 0
    · have HQ := Lib.hid (HN.out (Or.inr (Or.inr (Or.inr (Or.inr (Or.inr (Or.inr (Or.inr (Or.inl d8)))))))))
      have g8 : decide (x.f3 < 0) = true := decide_eq_true (by omega)
      clear HN HY
      go_wp2
      go_ret
      exact ⟨ret_bool HQ.out.symm, HB0.out⟩
    have g8 : decide (x.f3 < 0) = false := decide_eq_false (by omega)
    by_cases d9 : 9007199254740992 < x.f3
    · have HQ := Lib.hid (HN.out (Or.inr (Or.inr (Or.inr (Or.inr (Or.inr (Or.inr (Or.inr (Or.inr (Or.inl d9))))))))))
      have g9 : decide (9007199254740992 < x.f3) = true := decide_eq_true (by omega)
      clear HN HY
      go_wp2
      go_ret
      exact ⟨ret_bool HQ.out.symm, HB0.out⟩
    have g9 : decide (9007199254740992 < x.f3) = false := decide_eq_false (by omega)
    by_cases d10 : 40 < x.f4.size
    · have HQ := Lib.hid (HN.out (Or.inr (Or.inr (Or.inr (Or.inr (Or.inr (Or.inr (Or.inr (Or.inr (Or.inr (d10)))))))))))
      have g10 : decide ((40 : Int) < x.f4.size) = true := decide_eq_true (by omega)
      clear HN HY
      go_wp2
      go_ret
      exact ⟨ret_bool HQ.out.symm, HB0.out⟩
    have g10 : decide ((40 : Int) < x.f4.size) = false := decide_eq_false (by omega)
    have HQ := Lib.hid (HY.out (by rintro (h | h | h | h | h | h | h | h | h | h); exact h (Or.inl rfl); exact d1 h; exact d2 h; exact d3 h; exact d4 h; exact d5 h; (rcases h.2 with h | h; exact h D6.out; exact h D7.out); exact d8 h; exact d9 h; exact d10 h))
    have HC := Lib.hid (extra_calls 1 A ca x.f5 _ (Kd.C_below HRX.out HB0.out))
    clear HN HY d1 d2 d3 d4 d5 d8 d9 d10
    go_wp2_with fail
    refine HC.out.mono ?_
    rintro e W1 ⟨rfl, hb⟩
    go_wp2
    go_ret
    exact ⟨ret_bool HQ.out.symm, below_then HB0.out HB0.out.size hb⟩
  · have v1 : ((2 : Int) != 1) = true := rfl
    have v2 : ((2 : Int) != 2) = false := rfl
    have v1' : ((2 : Int) == 1) = false := rfl
    by_cases d1 : x.f0.size < 1
    · have HQ := Lib.hid (HN.out (Or.inr (Or.inl d1)))
      have g1 : decide ((x.f0.size : Int) < 1) = true := decide_eq_true (by omega)
      clear HN HY
      go_wp2
      go_ret
      exact ⟨ret_bool HQ.out.symm, HB0.out⟩
    have g1 : decide ((x.f0.size : Int) < 1) = false := decide_eq_false (by omega)
    by_cases d2 : 16 < x.f0.size
    · have HQ := Lib.hid (HN.out (Or.inr (Or.inr (Or.inl d2))))
      have g2 : decide ((16 : Int) < x.f0.size) = true := decide_eq_true (by omega)
      clear HN HY
      go_wp2
      go_ret
      exact ⟨ret_bool HQ.out.symm, HB0.out⟩
    have g2 : decide ((16 : Int) < x.f0.size) = false := decide_eq_false (by omega)
    by_cases d3 : 200 < x.f1.size
    · have HQ := Lib.hid (HN.out (Or.inr (Or.inr (Or.inr (Or.inl d3)))))
      have g3 : decide ((200 : Int) < x.f1.size) = true := decide_eq_true (by omega)
      clear HN HY
      go_wp2
      go_ret
      exact ⟨ret_bool HQ.out.symm, HB0.out⟩
    have g3 : decide ((200 : Int) < x.f1.size) = false := decide_eq_false (by omega)
    by_cases d4 : x.f2 < 0
    · have HQ := Lib.hid (HN.out (Or.inr (Or.inr (Or.inr (Or.inr (Or.inl d4))))))
      have g4 : decide (x.f2 < 0) = true := decide_eq_true (by omega)
      clear HN HY
      go_wp2
      go_ret
      exact ⟨ret_bool HQ.out.symm, HB0.out⟩
    have g4 : decide (x.f2 < 0) = false := decide_eq_false (by omega)
    by_cases d5 : 9007199254740992 < x.f2
    · have HQ := Lib.hid (HN.out (Or.inr (Or.inr (Or.inr (Or.inr (Or.inr (Or.inl d5)))))))
      have g5 : decide (9007199254740992 < x.f2) = true := decide_eq_true (by omega)
      clear HN HY
      go_wp2
      go_ret
      exact ⟨ret_bool HQ.out.symm, HB0.out⟩
    have g5 : decide (9007199254740992 < x.f2) = false := decide_eq_false (by omega)
    by_cases d8 : x.f3 < 0
    · have HQ := Lib.hid (HN.out (Or.inr (Or.inr (Or.inr (Or.inr (Or.inr (Or.inr (Or.inr (Or.inl d8)))))))))
      have g8 : decide (x.f3 < 0) = true := decide_eq_true (by omega)
      clear HN HY
      go_wp2
      go_ret
      exact ⟨ret_bool HQ.out.symm, HB0.out⟩
    have g8 : decide (x.f3 < 0) = false := decide_eq_false (by omega)
    by_cases d9 : 9007199254740992 < x.f3
    · have HQ := Lib.hid (HN.out (Or.inr (Or.inr (Or.inr (Or.inr (Or.inr (Or.inr (Or.inr (Or.inr (Or.inl d9))))))))))
      have g9 : decide (9007199254740992 < x.f3) = true := decide_eq_true (by omega)
      clear HN HY
      go_wp2
      go_ret
      exact ⟨ret_bool HQ.out.symm, HB0.out⟩
    have g9 : decide (9007199254740992 < x.f3) = false := decide_eq_false (by omega)
    by_cases d10 : 40 < x.f4.size
    · have HQ := Lib.hid (HN.out (Or.inr (Or.inr (Or.inr (Or.inr (Or.inr (Or.inr (Or.inr (Or.inr (Or.inr (d10)))))))))))
      have g10 : decide ((40 : Int) < x.f4.size) = true := decide_eq_true (by omega)
      clear HN HY
      go_wp2
      go_ret
      exact ⟨ret_bool HQ.out.symm, HB0.out⟩
    have g10 : decide ((40 : Int) < x.f4.size) = false := decide_eq_false (by omega)
    have HQ := Lib.hid (HY.out (by rintro (h | h | h | h | h | h | h | h | h | h); exact h (Or.inr rfl); exact d1 h; exact d2 h; exact d3 h; exact d4 h; exact d5 h; exact absurd h.1 (by decide); exact d8 h; exact d9 h; exact d10 h))
    have HC := Lib.hid (extra_calls 2 A ca x.f5 _ (Kd.C_below HRX.out HB0.out))
    clear HN HY d1 d2 d3 d4 d5 d8 d9 d10
    go_wp2_with fail
    refine HC.out.mono ?_
    rintro e W1 ⟨rfl, hb⟩
    go_wp2
    go_ret
    exact ⟨ret_bool HQ.out.symm, below_then HB0.out HB0.out.size hb⟩

end Go.Proofs.Ytadhfedbgeenlaa.H

/- Keys in their order; tables that may be, by the document. -/
namespace Go.Proofs.Ytadhfedbgeenlaa.H
open Go.RowKit Go.Proofs.YtadhfedbgeenlaaW.PrintWords Go.Proofs.YtadhfedbgeenlaaW.PrintLast Go.Proofs.YtadhfedbgeenlaaW.PrintMore
set_option linter.unusedVariables false
set_option linter.unusedSimpArgs false

def kLt (a b : ByteArray) : Bool := Op.bytesLess a.toList b.toList
def kLe (a b : ByteArray) : Bool := kLt a b || (a.toList == b.toList)

theorem bl_irrefl : ∀ a : List UInt8, Op.bytesLess a a = false
  | [] => rfl
  | x :: xs => by
    rw [Op.bytesLess, bl_irrefl xs]
    simp
theorem bl_trans : ∀ {a b c : List UInt8}, Op.bytesLess a b = true → Op.bytesLess b c = true → Op.bytesLess a c = true
  | _, [], _, h, _ => by simp [Op.bytesLess] at h
  | _, _ :: _, [], _, h => by simp [Op.bytesLess] at h
  | [], _ :: _, _ :: _, _, _ => rfl
  | x :: xs, y :: ys, z :: zs, h1, h2 => by
    simp only [Op.bytesLess, Bool.or_eq_true, Bool.and_eq_true, decide_eq_true_eq, beq_iff_eq] at h1 h2 ⊢
    rcases h1 with h1 | ⟨rfl, h1⟩
    · rcases h2 with h2 | ⟨rfl, h2⟩
      · exact Or.inl (UInt8.lt_trans h1 h2)
      · exact Or.inl h1
    · rcases h2 with h2 | ⟨rfl, h2⟩
      · exact Or.inl h2
      · exact Or.inr ⟨rfl, bl_trans h1 h2⟩
theorem bl_tri : ∀ {a b : List UInt8}, Op.bytesLess a b = false → ¬ a = b → Op.bytesLess b a = true
  | [], [], _, h => absurd rfl h
  | [], _ :: _, h, _ => by simp [Op.bytesLess] at h
  | _ :: _, [], _, _ => rfl
  | x :: xs, y :: ys, h1, h2 => by
    simp only [Op.bytesLess, Bool.or_eq_false_iff, Bool.and_eq_false_iff, decide_eq_false_iff_not, beq_eq_false_iff_ne] at h1
    simp only [Op.bytesLess, Bool.or_eq_true, Bool.and_eq_true, decide_eq_true_eq, beq_iff_eq]
    by_cases he : x = y
    · subst he
      refine Or.inr ⟨rfl, bl_tri (by rcases h1.2 with h | h; exact absurd rfl h; exact h) (fun e => h2 (by rw [e]))⟩
    · exact Or.inl (by
        have h := h1.1
        rw [UInt8.not_lt] at h
        exact UInt8.lt_of_le_of_ne h (fun e => he e.symm))
theorem toList_inj {a b : ByteArray} (h : a.toList = b.toList) : a = b := (str_beq a b).1 (by rw [h]; exact beq_self_eq_true _)
theorem kLt_irrefl (a : ByteArray) : kLt a a = false := bl_irrefl _
theorem kLt_trans {a b c : ByteArray} (h1 : kLt a b = true) (h2 : kLt b c = true) : kLt a c = true := bl_trans h1 h2
theorem kLt_asymm {a b : ByteArray} (h : kLt a b = true) : kLt b a = false := by
  cases h2 : kLt b a
  · rfl
  · have := kLt_trans h h2
    rw [kLt_irrefl] at this
    cases this
theorem kLt_tri {a b : ByteArray} (h : kLt a b = false) (hne : ¬ a = b) : kLt b a = true := bl_tri h (fun e => hne (toList_inj e))
theorem kLe_no {a b : ByteArray} : kLe a b = false ↔ kLt b a = true := by
  unfold kLe
  constructor
  · intro h
    rw [Bool.or_eq_false_iff] at h
    exact kLt_tri h.1 (fun e => by rw [(str_beq a b).2 e] at h; exact absurd h.2 (by decide))
  · intro h
    rw [kLt_asymm h, Bool.false_or]
    refine str_no (fun e => ?_)
    subst e
    rw [kLt_irrefl] at h
    cases h
theorem kLt_empty {a : ByteArray} (h : 1 ≤ a.size) : kLt ⟨#[]⟩ a = true := by
  unfold kLt
  rw [str_empty]
  cases ha : a.toList with
  | nil =>
    have : a = ⟨#[]⟩ := toList_inj (by rw [ha, str_empty])
    subst this
    exact absurd h (by decide)
  | cons x xs => rfl
theorem kLe_empty {a : ByteArray} (h : 1 ≤ a.size) : kLe a ⟨#[]⟩ = false := kLe_no.2 (kLt_empty h)
theorem recOk_key {v : Int} {x : S54} (h : recOk v x = true) : 1 ≤ x.f0.size := by
  by_cases hn : noRec v x
  · rw [recOk_no hn] at h
    cases h
  · rcases Nat.lt_or_ge x.f0.size 1 with h1 | h1
    · exact absurd (Or.inr (Or.inl h1)) hn
    · exact h1

/-- Records that may be, their keys rising from last on. -/
def tGo : List S54 → ByteArray → Bool
  | [], _ => true
  | x :: xs, last => if recOk 2 x = false ∨ kLe x.f0 last = true then false else tGo xs x.f0
def tabOk (l : List S54) : Bool := tGo l ⟨#[]⟩ && decide (l.length ≤ 20)
def prevKey (l : List S54) (k : Nat) : ByteArray := if k = 0 then ⟨#[]⟩ else (rd_T54 l ((k - 1 : Nat) : Int)).f0

set_option maxHeartbeats 2000000 in
set_option maxRecDepth 100000 in
theorem tab2Right_calls (A : Option Addr) (c : Nat) (l : List S54) (w : World) (hr : Kd.C k54 w A l.length l) :
    Calls Try.prog 26 #[.slice A l.length c] w fun e w' => e = .returned (.bool (tabOk l)) ∧ Below w.heap.size w w' := by
  have hm : l.length ≤ 9223372036854775807 := hr.2.1
  have HRR := Lib.hid hr; clear hr
  have HD := Lib.hid (show ∀ b, tGo l ⟨#[]⟩ = b → tabOk l = (b && decide (l.length ≤ 20)) from fun b h => by unfold tabOk; rw [h])
  generalize tabOk l = r at *
  go_enter Try.func26, Try.ntmps26
  go_wp2
  go_loopw [3] (fun v3 W => ∃ (k : Nat), k ≤ l.length ∧ v3 = .int .i64 k ∧ Aside0 (tGo l ⟨#[]⟩ = tGo (l.drop k) (prevKey l k)) ∧ Aside0 (Below w.heap.size w W)) (fun v3 _ => l.length - (intOf v3).toNat)
  case atStart => exact ⟨0, Nat.zero_le _, rfl, ⟨rfl⟩, ⟨Below.refl _ _⟩⟩
  case round =>
    obtain ⟨k, hk, rfl, HE, HB⟩ := hrel
    by_cases hlt : k < l.length
    rotate_left
    · obtain rfl : k = l.length := by omega
      have HQ := Lib.hid (HD.out true (by rw [HE.out, List.drop_length]; rfl))
      clear hlt HE HD
      by_cases hl : l.length ≤ 20
      · have e1 : (l.length : Int) ≤ 20 := by omega
        have HS := Lib.hid (HQ.out.trans (by rw [decide_eq_true hl]; rfl : _ = true)); clear hl HQ
        go_wp2
        go_ret
        exact ⟨ret_bool HS.out.symm, HB.out⟩
      · have e1 : ¬ (l.length : Int) ≤ 20 := by omega
        have HS := Lib.hid (HQ.out.trans (by rw [decide_eq_false hl]; rfl : _ = false)); clear hl HQ
        go_wp2
        go_ret
        exact ⟨ret_bool HS.out.symm, HB.out⟩
    obtain ⟨ad, A5, c5, hA, h0, h1, h2, h3, h4, h5, hl, hf⟩ := at_T54 HRR.out k (by omega) (by omega)
    obtain ⟨ad', A5', c5', hA', h0', h1', h2', h3', h4', h5', hl', hf'⟩ := at_T54 HRR.out ((k - 1 : Nat) : Int) (by omega) (by omega)
    rw [hA] at hA'
    injection hA' with hA'
    subst hA'
    subst hA
    clear h1' h2' h3' h4' h5' hl' hf'
    rw [Int.toNat_natCast] at h0 h1 h2 h3 h4 h5 h0'
    have HK0 := Lib.hid (And.intro h0 h0')
    replace h0 := kept_cell HB.out h0
    replace h1 := kept_cell HB.out h1
    replace h2 := kept_cell HB.out h2
    replace h3 := kept_cell HB.out h3
    replace h4 := kept_cell HB.out h4
    replace h5 := kept_cell HB.out h5
    clear h0'
    have hx : tGo (l.drop k) (prevKey l k) = if recOk 2 (rd_T54 l k) = false ∨ kLe (rd_T54 l k).f0 (prevKey l k) = true then false else tGo (l.drop (k + 1)) (rd_T54 l k).f0 := by
      rw [drop_getD l z54 hlt, tGo]; rfl
    have HN := Lib.hid (show prevKey l (k + 1) = (rd_T54 l k).f0 by unfold prevKey; rw [if_neg (by omega)]; rfl)
    have HP := Lib.hid (show prevKey l k = if k = 0 then ⟨#[]⟩ else (rd_T54 l ((k - 1 : Nat) : Int)).f0 from rfl)
    have HX := Lib.hid (HE.out.trans hx); clear hx HE
    generalize prevKey l k = p at *
    generalize rd_T54 l k = x at *
    generalize rd_T54 l ((k - 1 : Nat) : Int) = y at *
    have b1 : (0 : Int) ≤ k := by omega
    have b2 : (k : Int) < l.length := by omega
    have HC := Lib.hid (rec2Right_calls 2 x A5 c5 _ (Kd.C_below hf HB.out))
    clear hf
    go_upto_region 4 with (fail)
    go_cut [4] (fun v4 W => v4 = .bool (recOk 2 x) ∧ Aside0 (Below w.heap.size w W))
    case first =>
      go_wp2_with fail
      refine HC.out.mono ?_
      rintro e W1 ⟨rfl, hb⟩
      go_wp2
      go_meet
      case rel => first | exact ⟨rfl, ⟨below_then HB.out HB.out.size hb⟩⟩ | ((repeat apply Exists.intro); exact ⟨⟨rfl, ⟨below_then HB.out HB.out.size hb⟩⟩, rfl⟩)
    clear HC h0 h1 h2 h3 h4 h5 HB
    obtain ⟨rfl, HB⟩ := hcut
    obtain ⟨h0, h0'⟩ := HK0.out
    replace h0 := kept_cell HB.out h0
    replace h0' := kept_cell HB.out h0'
    cases hrc : recOk 2 x
    · have HQ := Lib.hid (HD.out false (by rw [HX.out, if_pos (Or.inl hrc)]))
      clear HX HD hrc
      go_wp2_with fail
      go_big_quiet (fail)
      go_wp2
      go_ret
      exact ⟨ret_bool HQ.out.symm, pw_below_drewN HB.out _⟩
    have HRC := Lib.hid hrc; clear hrc
    by_cases hk0 : k = 0
    · have ez : decide (0 < k) = false := decide_eq_false (by omega)
      have HQ := Lib.hid (HX.out.trans (if_neg (by
        have hp := HP.out
        rw [if_pos hk0] at hp
        subst hp
        rintro (h | h)
        · rw [HRC.out] at h; cases h
        · rw [kLe_empty (recOk_key HRC.out)] at h; cases h)))
      clear HX HD hk0
      go_wp2_with fail
      go_big_quiet (fail)
      go_wp2
      go_roundw
      case rel => exact ⟨k + 1, by omega, by go_num, ⟨by rw [HN.out]; exact HQ.out⟩, ⟨pw_below_drewN HB.out _⟩⟩
      case measure => simp [intOf]; omega
    have ez : decide (0 < k) = true := decide_eq_true (by omega)
    have hp := HP.out
    rw [if_neg hk0] at hp
    subst hp
    have hw : IntKind.i64.wrap ((k : Int) - 1) = ((k - 1 : Nat) : Int) := by rw [IntWalk.i64_in _ ⟨by omega, by omega⟩]; omega
    have b3 : (0 : Int) ≤ ((k - 1 : Nat) : Int) := by omega
    have b4 : ((k - 1 : Nat) : Int) < l.length := by omega
    clear hk0
    cases hc1 : kLt x.f0 y.f0
    rotate_left
    · have HQ := Lib.hid (HD.out false (by rw [HX.out, if_pos (Or.inr (by unfold kLe; rw [hc1]; rfl))]))
      have e1 : Op.bytesLess x.f0.toList y.f0.toList = true := hc1
      clear HX HD hc1
      go_wp2_with fail
      go_big_quiet (fail)
      go_wp2
      go_ret
      exact ⟨ret_bool HQ.out.symm, pw_below_drewN HB.out _⟩
    have e1 : Op.bytesLess x.f0.toList y.f0.toList = false := hc1
    cases hc2 : (x.f0.toList == y.f0.toList)
    rotate_left
    · have HQ := Lib.hid (HD.out false (by rw [HX.out, if_pos (Or.inr (by unfold kLe; rw [hc1, hc2]; rfl))]))
      clear HX HD hc1
      go_wp2_with fail
      go_big_quiet (fail)
      go_wp2
      go_ret
      exact ⟨ret_bool HQ.out.symm, pw_below_drewN HB.out _⟩
    have HQ := Lib.hid (HX.out.trans (if_neg (by
      rintro (h | h)
      · rw [HRC.out] at h; cases h
      · unfold kLe at h; rw [hc1, hc2] at h; cases h)))
    clear HX HD hc1
    go_wp2_with fail
    go_big_quiet (fail)
    go_wp2
    go_roundw
    case rel => exact ⟨k + 1, by omega, by go_num, ⟨by rw [HN.out]; exact HQ.out⟩, ⟨pw_below_drewN HB.out _⟩⟩
    case measure => simp [intOf]; omega

end Go.Proofs.Ytadhfedbgeenlaa.H

/- slices.Clone of fields; slices.DeleteFunc of fields that holds none; Last, within. -/
namespace Go.Proofs.Ytadhfedbgeenlaa.H
open Go.RowKit Go.Proofs.YtadhfedbgeenlaaW.PrintWords Go.Proofs.YtadhfedbgeenlaaW.PrintLast Go.Proofs.YtadhfedbgeenlaaW.PrintMore
set_option linter.unusedVariables false
set_option linter.unusedSimpArgs false

theorem R_empty {α : Type} (d : Kd α) (e : Nat) (W : World) (base : Nat) (hb : base ≤ W.heap.size) :
    d.R e (W.alloc (.cells #[] e)) base (fun _ => True) (.slice (some ⟨W.heap.size, 0, none⟩) 0 0) [] := by
  refine ⟨fun _ _ => trivial, [], ?_, Reps.none _ _⟩
  have h2 := World.ownsRow_lit (base := base) (e := e) (size := d.sz) W #[] 0 hb (by simp [maxLen]) (by simp)
  simpa using h2
theorem C_none {α : Type} {d : Kd α} {w : World} {n : Nat} {l : List α} (h : Kd.C d w none n l) : l = [] := by
  rcases l with _ | ⟨x, l⟩
  · rfl
  · have hn := h.1
    obtain ⟨ad, e, _⟩ := h.2.2 (by rw [← hn]; simp)
    cases e

set_option maxHeartbeats 1000000 in
set_option maxRecDepth 100000 in
theorem cloneF_calls (A : Option Addr) (c : Nat) (l : List S60) (w : World) (hr : Kd.C k60 w A l.length l) (hl : l.length ≤ 1000) :
    Calls Try.prog 39 #[.slice A l.length c] w fun e w' => ∃ v, e = .returned v ∧ Kd.R k60 60 w' w.heap.size (fun _ => True) v l ∧ Below w.heap.size w w' := by
  have HR := Lib.hid hr; clear hr
  have HL := Lib.hid hl; clear hl
  rcases A with _ | ad
  · obtain rfl := C_none HR.out
    have he := fun w => Lib.run_eql_slice_nil (P := Try.prog) w 52 60 none 0 c 0 0 Try.underlying52
    go_enter Try.func39, Try.ntmps39
    go_wp2
    go_ret
    exact ⟨_, rfl, Kd.R_nil _ _ _ _ _, Below.refl _ _⟩
  · have he := fun w => Lib.run_eql_slice_nil (P := Try.prog) w 52 60 (some ad) l.length c 0 0 Try.underlying52
    have HB := Lib.hid (below_alloc (Below.refl w.heap.size w) (.cells #[] 60))
    have HE := Lib.hid (R_empty k60 60 w w.heap.size (Nat.le_refl _))
    have HS := Lib.hid (Kd.C_below HR.out HB.out)
    go_enter Try.func39, Try.ntmps39
    go_wp2_with (at_builtin; refine Kd.R_append_rows k60 (w0 := w) w.heap.size rfl (.tmp 5) (.tmp 6) 52 60 (.agg #[(.int .i64 0), (.string ⟨#[]⟩)]) 24 rfl Try.underlying52 info60 rfl (by decide) (by omega) (.slice (some ⟨w.heap.size, 0, none⟩) 0 0) [] l _ _ _ (fun _ => True) (fun _ => False) rfl rfl ?aO ?aR (fun _ _ h => h) (fun _ h => h.elim) ?aF ?aB ?aS ?aL ?_; (case aO => exact HE.out); (case aR => exact HS.out); (case aF => exact fun _ _ => trivial); (case aB => exact HB.out); (case aS => simp); (case aL => have := HL.out; simp; omega); intro v w2 ho hb hg hat)
    go_ret
    exact ⟨v, rfl, ho, hb⟩

theorem others_is (f : S60) : others f = !(f.f0 == 4 || f.f0 == 5) := by unfold others; simp [bne]
set_option maxHeartbeats 1000000 in
theorem known_calls (f : S60) (w : World) :
    Calls Try.prog 59 #[.agg #[.int .i64 f.f0, .string f.f1]] w fun e w' => e = .returned (.bool (!others f)) ∧ Below w.heap.size w w' := by
  rw [others_is, Bool.not_not]
  go_enter Try.func59, Try.ntmps59
  go_wp2
  all_goals (go_ret; refine ⟨?_, below_alloc (Below.refl _ _) _⟩; simp_all)

set_option maxHeartbeats 1000000 in
set_option maxRecDepth 100000 in
theorem index_calls (A : Option Addr) (c : Nat) (l : List S60) (w : World) (hr : Kd.C k60 w A l.length l) (hno : l.all others = true) :
    Calls Try.prog 74 #[.slice A l.length c, .func (.func 59) #[] #[]] w fun e w' => e = .returned (.int .i64 (-1)) ∧ Below w.heap.size w w' := by
  have hm : l.length ≤ 9223372036854775807 := hr.2.1
  have HRR := Lib.hid hr; clear hr
  have HNO := Lib.hid hno; clear hno
  go_enter Try.func74, Try.ntmps74
  go_wp2
  go_loopw [8] (fun v8 W => ∃ (k : Nat), k ≤ l.length ∧ v8 = .int .i64 k ∧ Aside0 (Below w.heap.size w W)) (fun v8 _ => l.length - (intOf v8).toNat)
  case atStart => exact ⟨0, Nat.zero_le _, rfl, ⟨Below.refl _ _⟩⟩
  case round =>
    obtain ⟨k, hk, rfl, HB⟩ := hrel
    by_cases hlt : k < l.length
    rotate_left
    · obtain rfl : k = l.length := by omega
      clear hlt
      go_wp2
      go_ret
      exact ⟨rfl, HB.out⟩
    obtain ⟨ad, hA, h0, h1⟩ := at_T60 HRR.out k (by omega) (by omega)
    subst hA
    rw [Int.toNat_natCast] at h0 h1
    replace h0 := kept_cell HB.out h0
    replace h1 := kept_cell HB.out h1
    have HO := Lib.hid (show others (rd_T60 l k) = true from List.all_eq_true.1 HNO.out _ (by
      rw [show rd_T60 l k = l[k] by simp only [rd_T60, Int.toNat_natCast, List.getD_eq_getElem?_getD, List.getElem?_eq_getElem hlt, Option.getD_some]]
      exact List.getElem_mem hlt))
    generalize rd_T60 l k = x at *
    have b1 : (0 : Int) ≤ k := by omega
    have b2 : (k : Int) < l.length := by omega
    have HC := Lib.hid (known_calls x)
    rw [HO.out] at HC
    go_wp2_with fail
    refine (HC.out _).mono ?_
    rintro e W1 ⟨rfl, hb⟩
    go_wp2
    go_roundw
    case rel => exact ⟨k + 1, by omega, by go_num, ⟨below_then HB.out HB.out.size hb⟩⟩
    case measure => simp [intOf]; omega

set_option maxHeartbeats 1000000 in
set_option maxRecDepth 100000 in
theorem delete_calls (A : Option Addr) (c : Nat) (l : List S60) (w : World) (hr : Kd.C k60 w A l.length l) (hno : l.all others = true) :
    Calls Try.prog 58 #[.slice A l.length c, .func (.func 59) #[] #[]] w fun e w' => e = .returned (.slice A l.length c) ∧ Below w.heap.size w w' := by
  have HC := Lib.hid (index_calls A c l w hr hno)
  clear hr hno
  go_enter Try.func58, Try.ntmps58
  go_wp2_with fail
  refine HC.out.mono ?_
  rintro e W1 ⟨rfl, hb⟩
  go_wp2
  go_ret
  exact ⟨rfl, hb⟩

def lastTag (v : Int) : Int := if v = 1 then 3 else if v = 2 then 5 else 0
theorem last_calls (v : Int) (w : World) :
    Calls Try.prog 56 #[.int .i64 v] w fun e w' => e = .returned (.int .i64 (lastTag v)) ∧ w = w' := by
  go_enter Try.func56, Try.ntmps56
  go_wp2
  all_goals (go_ret; refine ⟨?_, rfl⟩; simp_all [lastTag])
theorem within_calls (n : Int) (w : World) :
    Calls Try.prog 57 #[.int .i64 n] w fun e w' => e = .returned (.bool (decide (0 ≤ n) && decide (n ≤ 9007199254740992))) ∧ w = w' := by
  go_enter Try.func57, Try.ntmps57
  go_wp2
  all_goals (go_ret; refine ⟨?_, rfl⟩; simp_all <;> (intros; omega))

end Go.Proofs.Ytadhfedbgeenlaa.H

/- Records that may be: record.Right. -/
namespace Go.Proofs.Ytadhfedbgeenlaa.H
open Go.RowKit Go.Proofs.YtadhfedbgeenlaaW.PrintWords Go.Proofs.YtadhfedbgeenlaaW.PrintLast Go.Proofs.YtadhfedbgeenlaaW.PrintMore
set_option linter.unusedVariables false
set_option linter.unusedSimpArgs false

theorem below_drewN' {B : Nat} {w W : World} (h : Below B w W) (n : Nat) : Below B w (W.drewN n) := pw_below_drewN h n
theorem emp_yes {a : ByteArray} (h : a = ⟨#[]⟩) : a.toList.isEmpty = true := by rw [str_none h]; rfl
theorem emp_no {a : ByteArray} (h : ¬ a = ⟨#[]⟩) : a.toList.isEmpty = false := by
  cases ha : a.toList with
  | nil => exact absurd ha (str_some h)
  | cons x xs => rfl
theorem fGo_lt : ∀ {l : List S60} {last : Int}, fGo l last = true → ∀ f ∈ l, last < f.f0
  | [], _, _, f, hf => by cases hf
  | x :: xs, last, h, f, hf => by
    rw [fGo] at h
    by_cases hc : x.f0 ≤ last ∨ 1000000 < x.f0 ∨ 1000 < x.f1.size
    · rw [if_pos hc] at h; cases h
    · rw [if_neg hc] at h
      have h1 : last < x.f0 := by
        rcases Int.lt_or_le last x.f0 with h1 | h1
        · exact h1
        · exact absurd (Or.inl h1) hc
      rcases List.mem_cons.1 hf with rfl | hf
      · exact h1
      · exact Int.lt_trans h1 (fGo_lt h f hf)
theorem knows_is {v t : Int} (hv : v = 1 ∨ v = 2) : knows v t = (decide (1 ≤ t) && decide (t ≤ lastTag v)) := by
  rcases hv with rfl | rfl <;> simp [knows, lastTag]
theorem countP_all {α : Type} {p : α → Bool} : ∀ {l : List α}, l.all p = true → l.countP p = l.length
  | [], _ => rfl
  | x :: xs, h => by
    rw [List.all_cons, Bool.and_eq_true] at h
    rw [List.countP_cons, countP_all h.2, if_pos h.1]
    rfl
theorem extra_is {v : Int} (hv : v = 1 ∨ v = 2) {l : List S60} (hno : l.all others = true) :
    extraOk v l = (!(decide (0 < l.length) && decide ((rd_T60 l 0).f0 ≤ lastTag v)) && (decide (l.length ≤ 8) && fieldsOk l)) := by
  unfold extraOk
  rw [countP_all hno]
  have h0 : 0 ≤ lastTag v := by rcases hv with rfl | rfl <;> decide
  cases l with
  | nil => rfl
  | cons f fs =>
    have e1 : decide (0 < (f :: fs).length) = true := decide_eq_true (by simp)
    have e2 : rd_T60 (f :: fs) 0 = f := rfl
    rw [e1, e2, Bool.true_and]
    by_cases hl : f.f0 ≤ lastTag v
    · rw [decide_eq_true hl, Bool.not_true, Bool.false_and]
      by_cases h1 : 1 ≤ f.f0
      · have hk : knows v f.f0 = true := by rw [knows_is hv, decide_eq_true h1, decide_eq_true hl]; rfl
        rw [List.all_cons, hk]
        rfl
      · have hf : fieldsOk (f :: fs) = false := by
          unfold fieldsOk
          rw [fGo, if_pos (Or.inl (by omega)), Bool.false_and]
        rw [hf, Bool.false_and, Bool.and_false]
    · rw [decide_eq_false hl, Bool.not_false, Bool.true_and]
      cases hf : fieldsOk (f :: fs)
      · rw [Bool.false_and, Bool.and_false, Bool.and_false]
      · have hg : fGo fs f.f0 = true := by
          unfold fieldsOk at hf
          rw [Bool.and_eq_true] at hf
          have h := hf.1
          rw [fGo] at h
          by_cases hc : f.f0 ≤ 0 ∨ 1000000 < f.f0 ∨ 1000 < f.f1.size
          · rw [if_pos hc] at h; cases h
          · rwa [if_neg hc] at h
        have ha : (f :: fs).all (fun f => !knows v f.f0) = true := by
          rw [List.all_eq_true]
          intro g hg2
          have h3 : lastTag v < g.f0 := by
            rcases List.mem_cons.1 hg2 with rfl | hg2
            · omega
            · have := fGo_lt hg g hg2
              omega
          rw [knows_is hv, decide_eq_false (show ¬ g.f0 ≤ lastTag v by omega), Bool.and_false]
          rfl
        rw [ha, Bool.true_and, Bool.true_and, Bool.and_true]

set_option maxHeartbeats 8000000 in
set_option maxRecDepth 100000 in
theorem recRight_calls (v : Int) (x : S54) (A : Option Addr) (ca : Nat) (w : World) (hx : Kd.C k60 w A x.f5.length x.f5) (hno : x.f5.all others = true) (hlen : x.f5.length ≤ 1000) (hv : v = 1 ∨ v = 2) :
    Calls Try.prog 38 #[.int .i64 v, .agg #[.string x.f0, .string x.f1, .int .i64 x.f2, .int .i64 x.f3, .string x.f4, .slice A x.f5.length ca]] w fun e w' => e = .returned (.bool (recOk v x)) ∧ Below w.heap.size w w' := by
  have HRX := Lib.hid hx; clear hx
  have HNO := Lib.hid hno; clear hno
  have HLE := Lib.hid hlen; clear hlen
  have HEX := Lib.hid (extra_is hv HNO.out)
  have HN := Lib.hid (fun h => recOk_no (v := v) (x := x) h)
  have HY := Lib.hid (fun h => recOk_yes (v := v) (x := x) h)
  generalize recOk v x = r at *
  generalize extraOk v x.f5 = ex at *
  generalize hW0 : w.alloc (.cells #[.string x.f0, .string x.f1, .int .i64 x.f2, .int .i64 x.f3, .string x.f4, .slice A x.f5.length ca] 54) = W0
  have HB0 := Lib.hid (show Below w.heap.size w W0 by rw [← hW0]; exact below_alloc (Below.refl _ _) _)
  have HK0 := Lib.hid (show W0.heap[w.heap.size]? = some (.cells #[.string x.f0, .string x.f1, .int .i64 x.f2, .int .i64 x.f3, .string x.f4, .slice A x.f5.length ca] 54 (0, 0)) by rw [← hW0]; exact new_at rfl _)
  have HW0 := Lib.hid hW0; clear hW0
  obtain ⟨k0, k1, k2, k3, k4, k5, _, kl⟩ := six_cells HK0.out
  have HLA := Lib.hid (fun w => last_calls v w)
  have HW2 := Lib.hid (fun w => within_calls x.f2 w)
  have HW3 := Lib.hid (fun w => within_calls x.f3 w)
  go_enter Try.func38, Try.ntmps38
  go_upto_region 1 with (fail)
  rw [HW0.out]
  rcases hv with rfl | rfl
  · rw [show lastTag 1 = 3 from rfl] at HLA HEX
    have v1 : ((1 : Int) == 1) = true := rfl
    by_cases d0 : x.f0 = ⟨#[]⟩
    · have HQ := Lib.hid (HN.out (Or.inr (Or.inl (show x.f0.size < 1 by rw [d0]; decide))))
      have D0 := Lib.hid (emp_yes d0)
      clear d0
      have g0 := D0.out
      clear HN HY
      go_wp2_with fail
      refine (HLA.out _).mono ?_
      rintro e W1 ⟨rfl, rfl⟩
      go_wp2
      go_ret
      exact ⟨ret_bool HQ.out.symm, HB0.out⟩
    have g0 := emp_no d0
    have D0 := Lib.hid (show ¬ x.f0.size < 1 from fun h => d0 (ByteArray.ext (Array.eq_empty_of_size_eq_zero (by have : x.f0.data.size = x.f0.size := rfl; omega))))
    clear d0
    by_cases d2 : 16 < x.f0.size
    · have HQ := Lib.hid (HN.out (Or.inr (Or.inr (Or.inl d2))))
      have g2 : decide ((16 : Int) < x.f0.size) = true := decide_eq_true (by omega)
      clear HN HY
      go_wp2_with fail
      refine (HLA.out _).mono ?_
      rintro e W1 ⟨rfl, rfl⟩
      go_wp2
      go_ret
      exact ⟨ret_bool HQ.out.symm, HB0.out⟩
    have g2 : decide ((16 : Int) < x.f0.size) = false := decide_eq_false (by omega)
    by_cases d3 : 200 < x.f1.size
    · have HQ := Lib.hid (HN.out (Or.inr (Or.inr (Or.inr (Or.inl d3)))))
      have g3 : decide ((200 : Int) < x.f1.size) = true := decide_eq_true (by omega)
      clear HN HY
      go_wp2_with fail
      refine (HLA.out _).mono ?_
      rintro e W1 ⟨rfl, rfl⟩
      go_wp2
      go_ret
      exact ⟨ret_bool HQ.out.symm, HB0.out⟩
    have g3 : decide ((200 : Int) < x.f1.size) = false := decide_eq_false (by omega)
    by_cases d9 : 40 < x.f4.size
    · have HQ := Lib.hid (HN.out (Or.inr (Or.inr (Or.inr (Or.inr (Or.inr (Or.inr (Or.inr (Or.inr (Or.inr (d9)))))))))))
      have g9 : decide ((40 : Int) < x.f4.size) = true := decide_eq_true (by omega)
      clear HN HY
      go_wp2_with fail
      refine (HLA.out _).mono ?_
      rintro e W1 ⟨rfl, rfl⟩
      go_wp2
      go_ret
      exact ⟨ret_bool HQ.out.symm, HB0.out⟩
    have g9 : decide ((40 : Int) < x.f4.size) = false := decide_eq_false (by omega)
    by_cases d4 : x.f2 < 0
    · have HQ := Lib.hid (HN.out (Or.inr (Or.inr (Or.inr (Or.inr (Or.inl d4))))))
      rw [decide_eq_false (show ¬ 0 ≤ x.f2 by omega), Bool.false_and] at HW2
      clear HN HY
      go_wp2_with fail
      refine (HLA.out _).mono ?_
      rintro e W1 ⟨rfl, rfl⟩
      go_wp2_with fail
      refine (HW2.out _).mono ?_
      rintro e W1 ⟨rfl, rfl⟩
      go_wp2
      go_ret
      exact ⟨ret_bool HQ.out.symm, HB0.out⟩
    by_cases d5 : 9007199254740992 < x.f2
    · have HQ := Lib.hid (HN.out (Or.inr (Or.inr (Or.inr (Or.inr (Or.inr (Or.inl d5)))))))
      rw [decide_eq_false (show ¬ x.f2 ≤ 9007199254740992 by omega), Bool.and_false] at HW2
      clear HN HY
      go_wp2_with fail
      refine (HLA.out _).mono ?_
      rintro e W1 ⟨rfl, rfl⟩
      go_wp2_with fail
      refine (HW2.out _).mono ?_
      rintro e W1 ⟨rfl, rfl⟩
      go_wp2
      go_ret
      exact ⟨ret_bool HQ.out.symm, HB0.out⟩
    rw [decide_eq_true (show 0 ≤ x.f2 by omega), decide_eq_true (show x.f2 ≤ 9007199254740992 by omega), Bool.true_and] at HW2
    by_cases d7 : x.f3 < 0
    · have HQ := Lib.hid (HN.out (Or.inr (Or.inr (Or.inr (Or.inr (Or.inr (Or.inr (Or.inr (Or.inl d7)))))))))
      rw [decide_eq_false (show ¬ 0 ≤ x.f3 by omega), Bool.false_and] at HW3
      clear HN HY
      go_wp2_with fail
      refine (HLA.out _).mono ?_
      rintro e W1 ⟨rfl, rfl⟩
      go_wp2_with fail
      refine (HW2.out _).mono ?_
      rintro e W1 ⟨rfl, rfl⟩
      go_wp2_with fail
      refine (HW3.out _).mono ?_
      rintro e W1 ⟨rfl, rfl⟩
      go_wp2
      go_ret
      exact ⟨ret_bool HQ.out.symm, HB0.out⟩
    by_cases d8 : 9007199254740992 < x.f3
    · have HQ := Lib.hid (HN.out (Or.inr (Or.inr (Or.inr (Or.inr (Or.inr (Or.inr (Or.inr (Or.inr (Or.inl d8))))))))))
      rw [decide_eq_false (show ¬ x.f3 ≤ 9007199254740992 by omega), Bool.and_false] at HW3
      clear HN HY
      go_wp2_with fail
      refine (HLA.out _).mono ?_
      rintro e W1 ⟨rfl, rfl⟩
      go_wp2_with fail
      refine (HW2.out _).mono ?_
      rintro e W1 ⟨rfl, rfl⟩
      go_wp2_with fail
      refine (HW3.out _).mono ?_
      rintro e W1 ⟨rfl, rfl⟩
      go_wp2
      go_ret
      exact ⟨ret_bool HQ.out.symm, HB0.out⟩
    rw [decide_eq_true (show 0 ≤ x.f3 by omega), decide_eq_true (show x.f3 ≤ 9007199254740992 by omega), Bool.true_and] at HW3
    by_cases d6 : x.f3 = 0
    rotate_left
    · have HQ := Lib.hid (HN.out (Or.inr (Or.inr (Or.inr (Or.inr (Or.inr (Or.inr (Or.inl ⟨rfl, Or.inl d6⟩))))))))
      have g6 : decide (0 < x.f3) = true := decide_eq_true (by omega)
      clear HN HY
      go_wp2_with fail
      refine (HLA.out _).mono ?_
      rintro e W1 ⟨rfl, rfl⟩
      go_wp2_with fail
      refine (HW2.out _).mono ?_
      rintro e W1 ⟨rfl, rfl⟩
      go_wp2_with fail
      refine (HW3.out _).mono ?_
      rintro e W1 ⟨rfl, rfl⟩
      go_wp2
      go_ret
      exact ⟨ret_bool HQ.out.symm, HB0.out⟩
    have g6 : decide (0 < x.f3) = false := decide_eq_false (by omega)
    have D6 := Lib.hid d6; clear d6
    by_cases d7s : x.f4 = ⟨#[]⟩
    rotate_left
    · have HQ := Lib.hid (HN.out (Or.inr (Or.inr (Or.inr (Or.inr (Or.inr (Or.inr (Or.inl ⟨rfl, Or.inr d7s⟩))))))))
      have g7 := emp_no d7s
      clear HN HY
      go_wp2_with fail
      refine (HLA.out _).mono ?_
      rintro e W1 ⟨rfl, rfl⟩
      go_wp2_with fail
      refine (HW2.out _).mono ?_
      rintro e W1 ⟨rfl, rfl⟩
      go_wp2_with fail
      refine (HW3.out _).mono ?_
      rintro e W1 ⟨rfl, rfl⟩
      go_wp2
      go_ret
      exact ⟨ret_bool HQ.out.symm, HB0.out⟩
    have g7 := emp_yes d7s
    have D7 := Lib.hid d7s; clear d7s
    have HQ := Lib.hid (HY.out (by rintro (h | h | h | h | h | h | h | h | h | h); exact h (Or.inl rfl); exact D0.out h; exact d2 h; exact d3 h; exact absurd h d4; exact absurd h d5; (rcases h.2 with h | h; exact h D6.out; exact h D7.out); exact absurd h d7; exact absurd h d8; exact d9 h))
    clear HN HY d2 d3 d9
    go_wp2_with fail
    refine (HLA.out _).mono ?_
    rintro e W1 ⟨rfl, rfl⟩
    go_wp2_with fail
    refine (HW2.out _).mono ?_
    rintro e W1 ⟨rfl, rfl⟩
    go_wp2_with fail
    refine (HW3.out _).mono ?_
    rintro e W1 ⟨rfl, rfl⟩
    go_upto_region 11 with (fail)
    by_cases hz : 0 < x.f5.length
    · obtain ⟨ad, hA, h0, h1⟩ := at_T60 (Kd.C_below HRX.out HB0.out) 0 (by omega) (by omega)
      subst hA
      have ez : decide (0 < x.f5.length) = true := decide_eq_true hz
      have b2 : (0 : Int) < x.f5.length := by omega
      simp only [Int.toNat_zero, Nat.zero_mul] at h0 h1
      rw [show ad.add 0 = ad from rfl] at h0 h1
      rw [ez, Bool.true_and] at HEX
      generalize rd_T60 x.f5 0 = y at *
      clear h1 hz
      by_cases dy : y.f0 ≤ 3
      · have gy : decide (y.f0 ≤ 3) = true := decide_eq_true dy
        have HS := Lib.hid (HEX.out.trans (by rw [gy]; rfl : _ = false))
        clear HEX
        go_big_quiet ((go_at_call 56; exact Calls.quiet_of_same ((HLA.out _).mono fun _ _ hz => ⟨hz.1, hz.2.symm⟩)))
        go_wp2
        go_ret
        exact ⟨ret_bool (HQ.out.trans HS.out).symm, pw_below_drewN HB0.out _⟩
      have gy : decide (y.f0 ≤ 3) = false := decide_eq_false dy
      have HE2 := Lib.hid (HEX.out.trans (by rw [gy]; rfl : _ = (decide (x.f5.length ≤ 8) && fieldsOk x.f5)))
      clear HEX dy
      go_big_quiet ((go_at_call 56; exact Calls.quiet_of_same ((HLA.out _).mono fun _ _ hz => ⟨hz.1, hz.2.symm⟩)))
      clear gy ez b2 h0
      have HCL := Lib.hid (cloneF_calls _ ca x.f5 _ (Kd.C_below HRX.out (below_drewN' HB0.out nq)) HLE.out)
      have HK5 := Lib.hid k5
      clear HLA HW2 HW3 k0 k1 k2 k3 k4
      go_wp2_with fail
      refine HCL.out.mono ?_
      rintro e W1 ⟨v1, rfl, ho1, hb1⟩
      obtain ⟨B1, d1, rfl, hl1, hc1⟩ := Kd.R_reads ho1
      have HDE := Lib.hid (delete_calls B1 d1 x.f5 _ hc1 HNO.out)
      have HB1 := Lib.hid (below_then (below_drewN' HB0.out nq) (below_drewN' HB0.out nq).size hb1)
      have k5' := kept_cell (W := W0) (w2 := W1) ⟨hb1.os, hb1.tape, hb1.output, hb1.size, hb1.block⟩ k5
      clear ho1 hl1 hc1 hb1 k5
      go_wp2_with fail
      refine HDE.out.mono ?_
      rintro e W2 ⟨rfl, hb2⟩
      have k5 := kept_cell hb2 k5'
      have HB2 := Lib.hid (below_then HB1.out HB1.out.size hb2)
      clear k5' hb2 HDE HCL HB1
      by_cases d8 : x.f5.length ≤ 8
      rotate_left
      · have g8 : decide ((x.f5.length : Int) ≤ 8) = false := decide_eq_false (by omega)
        have HS := Lib.hid (HE2.out.trans (by rw [decide_eq_false d8]; rfl : _ = false))
        clear d8 HE2
        go_wp2
        go_ret
        exact ⟨ret_bool (HQ.out.trans HS.out).symm, HB2.out⟩
      have g8 : decide ((x.f5.length : Int) ≤ 8) = true := decide_eq_true (by omega)
      have HS := Lib.hid (HE2.out.trans (by rw [decide_eq_true d8, Bool.true_and] : _ = fieldsOk x.f5))
      have HFR := Lib.hid (fieldRight_calls _ ca x.f5 _ (Kd.C_below HRX.out HB2.out))
      clear d8 HE2
      go_wp2_with fail
      refine HFR.out.mono ?_
      rintro e W3 ⟨rfl, hb3⟩
      go_wp2
      go_ret
      exact ⟨ret_bool (HQ.out.trans HS.out).symm, below_then HB2.out HB2.out.size hb3⟩
    have ez : decide (0 < x.f5.length) = false := decide_eq_false hz
    have HE2 := Lib.hid (HEX.out.trans (by rw [ez]; rfl : _ = (decide (x.f5.length ≤ 8) && fieldsOk x.f5)))
    clear HEX hz
    go_big_quiet ((go_at_call 56; exact Calls.quiet_of_same ((HLA.out _).mono fun _ _ hz => ⟨hz.1, hz.2.symm⟩)))
    clear ez
    have HCL := Lib.hid (cloneF_calls _ ca x.f5 _ (Kd.C_below HRX.out (below_drewN' HB0.out nq)) HLE.out)
    have HK5 := Lib.hid k5
    clear HLA HW2 HW3 k0 k1 k2 k3 k4
    go_wp2_with fail
    refine HCL.out.mono ?_
    rintro e W1 ⟨v1, rfl, ho1, hb1⟩
    obtain ⟨B1, d1, rfl, hl1, hc1⟩ := Kd.R_reads ho1
    have HDE := Lib.hid (delete_calls B1 d1 x.f5 _ hc1 HNO.out)
    have HB1 := Lib.hid (below_then (below_drewN' HB0.out nq) (below_drewN' HB0.out nq).size hb1)
    have k5' := kept_cell (W := W0) (w2 := W1) ⟨hb1.os, hb1.tape, hb1.output, hb1.size, hb1.block⟩ k5
    clear ho1 hl1 hc1 hb1 k5
    go_wp2_with fail
    refine HDE.out.mono ?_
    rintro e W2 ⟨rfl, hb2⟩
    have k5 := kept_cell hb2 k5'
    have HB2 := Lib.hid (below_then HB1.out HB1.out.size hb2)
    clear k5' hb2 HDE HCL HB1
    by_cases d8 : x.f5.length ≤ 8
    rotate_left
    · have g8 : decide ((x.f5.length : Int) ≤ 8) = false := decide_eq_false (by omega)
      have HS := Lib.hid (HE2.out.trans (by rw [decide_eq_false d8]; rfl : _ = false))
      clear d8 HE2
      go_wp2
      go_ret
      exact ⟨ret_bool (HQ.out.trans HS.out).symm, HB2.out⟩
    have g8 : decide ((x.f5.length : Int) ≤ 8) = true := decide_eq_true (by omega)
    have HS := Lib.hid (HE2.out.trans (by rw [decide_eq_true d8, Bool.true_and] : _ = fieldsOk x.f5))
    have HFR := Lib.hid (fieldRight_calls _ ca x.f5 _ (Kd.C_below HRX.out HB2.out))
    clear d8 HE2
    go_wp2_with fail
    refine HFR.out.mono ?_
    rintro e W3 ⟨rfl, hb3⟩
    go_wp2
    go_ret
    exact ⟨ret_bool (HQ.out.trans HS.out).symm, below_then HB2.out HB2.out.size hb3⟩
  · rw [show lastTag 2 = 5 from rfl] at HLA HEX
    have v1 : ((2 : Int) == 1) = false := rfl
    by_cases d0 : x.f0 = ⟨#[]⟩
    · have HQ := Lib.hid (HN.out (Or.inr (Or.inl (show x.f0.size < 1 by rw [d0]; decide))))
      have D0 := Lib.hid (emp_yes d0)
      clear d0
      have g0 := D0.out
      clear HN HY
      go_wp2_with fail
      refine (HLA.out _).mono ?_
      rintro e W1 ⟨rfl, rfl⟩
      go_wp2
      go_ret
      exact ⟨ret_bool HQ.out.symm, HB0.out⟩
    have g0 := emp_no d0
    have D0 := Lib.hid (show ¬ x.f0.size < 1 from fun h => d0 (ByteArray.ext (Array.eq_empty_of_size_eq_zero (by have : x.f0.data.size = x.f0.size := rfl; omega))))
    clear d0
    by_cases d2 : 16 < x.f0.size
    · have HQ := Lib.hid (HN.out (Or.inr (Or.inr (Or.inl d2))))
      have g2 : decide ((16 : Int) < x.f0.size) = true := decide_eq_true (by omega)
      clear HN HY
      go_wp2_with fail
      refine (HLA.out _).mono ?_
      rintro e W1 ⟨rfl, rfl⟩
      go_wp2
      go_ret
      exact ⟨ret_bool HQ.out.symm, HB0.out⟩
    have g2 : decide ((16 : Int) < x.f0.size) = false := decide_eq_false (by omega)
    by_cases d3 : 200 < x.f1.size
    · have HQ := Lib.hid (HN.out (Or.inr (Or.inr (Or.inr (Or.inl d3)))))
      have g3 : decide ((200 : Int) < x.f1.size) = true := decide_eq_true (by omega)
      clear HN HY
      go_wp2_with fail
      refine (HLA.out _).mono ?_
      rintro e W1 ⟨rfl, rfl⟩
      go_wp2
      go_ret
      exact ⟨ret_bool HQ.out.symm, HB0.out⟩
    have g3 : decide ((200 : Int) < x.f1.size) = false := decide_eq_false (by omega)
    by_cases d9 : 40 < x.f4.size
    · have HQ := Lib.hid (HN.out (Or.inr (Or.inr (Or.inr (Or.inr (Or.inr (Or.inr (Or.inr (Or.inr (Or.inr (d9)))))))))))
      have g9 : decide ((40 : Int) < x.f4.size) = true := decide_eq_true (by omega)
      clear HN HY
      go_wp2_with fail
      refine (HLA.out _).mono ?_
      rintro e W1 ⟨rfl, rfl⟩
      go_wp2
      go_ret
      exact ⟨ret_bool HQ.out.symm, HB0.out⟩
    have g9 : decide ((40 : Int) < x.f4.size) = false := decide_eq_false (by omega)
    by_cases d4 : x.f2 < 0
    · have HQ := Lib.hid (HN.out (Or.inr (Or.inr (Or.inr (Or.inr (Or.inl d4))))))
      rw [decide_eq_false (show ¬ 0 ≤ x.f2 by omega), Bool.false_and] at HW2
      clear HN HY
      go_wp2_with fail
      refine (HLA.out _).mono ?_
      rintro e W1 ⟨rfl, rfl⟩
      go_wp2_with fail
      refine (HW2.out _).mono ?_
      rintro e W1 ⟨rfl, rfl⟩
      go_wp2
      go_ret
      exact ⟨ret_bool HQ.out.symm, HB0.out⟩
    by_cases d5 : 9007199254740992 < x.f2
    · have HQ := Lib.hid (HN.out (Or.inr (Or.inr (Or.inr (Or.inr (Or.inr (Or.inl d5)))))))
      rw [decide_eq_false (show ¬ x.f2 ≤ 9007199254740992 by omega), Bool.and_false] at HW2
      clear HN HY
      go_wp2_with fail
      refine (HLA.out _).mono ?_
      rintro e W1 ⟨rfl, rfl⟩
      go_wp2_with fail
      refine (HW2.out _).mono ?_
      rintro e W1 ⟨rfl, rfl⟩
      go_wp2
      go_ret
      exact ⟨ret_bool HQ.out.symm, HB0.out⟩
    rw [decide_eq_true (show 0 ≤ x.f2 by omega), decide_eq_true (show x.f2 ≤ 9007199254740992 by omega), Bool.true_and] at HW2
    by_cases d7 : x.f3 < 0
    · have HQ := Lib.hid (HN.out (Or.inr (Or.inr (Or.inr (Or.inr (Or.inr (Or.inr (Or.inr (Or.inl d7)))))))))
      rw [decide_eq_false (show ¬ 0 ≤ x.f3 by omega), Bool.false_and] at HW3
      clear HN HY
      go_wp2_with fail
      refine (HLA.out _).mono ?_
      rintro e W1 ⟨rfl, rfl⟩
      go_wp2_with fail
      refine (HW2.out _).mono ?_
      rintro e W1 ⟨rfl, rfl⟩
      go_wp2_with fail
      refine (HW3.out _).mono ?_
      rintro e W1 ⟨rfl, rfl⟩
      go_wp2
      go_ret
      exact ⟨ret_bool HQ.out.symm, HB0.out⟩
    by_cases d8 : 9007199254740992 < x.f3
    · have HQ := Lib.hid (HN.out (Or.inr (Or.inr (Or.inr (Or.inr (Or.inr (Or.inr (Or.inr (Or.inr (Or.inl d8))))))))))
      rw [decide_eq_false (show ¬ x.f3 ≤ 9007199254740992 by omega), Bool.and_false] at HW3
      clear HN HY
      go_wp2_with fail
      refine (HLA.out _).mono ?_
      rintro e W1 ⟨rfl, rfl⟩
      go_wp2_with fail
      refine (HW2.out _).mono ?_
      rintro e W1 ⟨rfl, rfl⟩
      go_wp2_with fail
      refine (HW3.out _).mono ?_
      rintro e W1 ⟨rfl, rfl⟩
      go_wp2
      go_ret
      exact ⟨ret_bool HQ.out.symm, HB0.out⟩
    rw [decide_eq_true (show 0 ≤ x.f3 by omega), decide_eq_true (show x.f3 ≤ 9007199254740992 by omega), Bool.true_and] at HW3
    have HQ := Lib.hid (HY.out (by rintro (h | h | h | h | h | h | h | h | h | h); exact h (Or.inr rfl); exact D0.out h; exact d2 h; exact d3 h; exact absurd h d4; exact absurd h d5; exact absurd h.1 (by decide); exact absurd h d7; exact absurd h d8; exact d9 h))
    clear HN HY d2 d3 d9
    go_wp2_with fail
    refine (HLA.out _).mono ?_
    rintro e W1 ⟨rfl, rfl⟩
    go_wp2_with fail
    refine (HW2.out _).mono ?_
    rintro e W1 ⟨rfl, rfl⟩
    go_wp2_with fail
    refine (HW3.out _).mono ?_
    rintro e W1 ⟨rfl, rfl⟩
    go_upto_region 11 with (fail)
    by_cases hz : 0 < x.f5.length
    · obtain ⟨ad, hA, h0, h1⟩ := at_T60 (Kd.C_below HRX.out HB0.out) 0 (by omega) (by omega)
      subst hA
      have ez : decide (0 < x.f5.length) = true := decide_eq_true hz
      have b2 : (0 : Int) < x.f5.length := by omega
      simp only [Int.toNat_zero, Nat.zero_mul] at h0 h1
      rw [show ad.add 0 = ad from rfl] at h0 h1
      rw [ez, Bool.true_and] at HEX
      generalize rd_T60 x.f5 0 = y at *
      clear h1 hz
      by_cases dy : y.f0 ≤ 5
      · have gy : decide (y.f0 ≤ 5) = true := decide_eq_true dy
        have HS := Lib.hid (HEX.out.trans (by rw [gy]; rfl : _ = false))
        clear HEX
        go_big_quiet ((go_at_call 56; exact Calls.quiet_of_same ((HLA.out _).mono fun _ _ hz => ⟨hz.1, hz.2.symm⟩)))
        go_wp2
        go_ret
        exact ⟨ret_bool (HQ.out.trans HS.out).symm, pw_below_drewN HB0.out _⟩
      have gy : decide (y.f0 ≤ 5) = false := decide_eq_false dy
      have HE2 := Lib.hid (HEX.out.trans (by rw [gy]; rfl : _ = (decide (x.f5.length ≤ 8) && fieldsOk x.f5)))
      clear HEX dy
      go_big_quiet ((go_at_call 56; exact Calls.quiet_of_same ((HLA.out _).mono fun _ _ hz => ⟨hz.1, hz.2.symm⟩)))
      clear gy ez b2 h0
      have HCL := Lib.hid (cloneF_calls _ ca x.f5 _ (Kd.C_below HRX.out (below_drewN' HB0.out nq)) HLE.out)
      have HK5 := Lib.hid k5
      clear HLA HW2 HW3 k0 k1 k2 k3 k4
      go_wp2_with fail
      refine HCL.out.mono ?_
      rintro e W1 ⟨v1, rfl, ho1, hb1⟩
      obtain ⟨B1, d1, rfl, hl1, hc1⟩ := Kd.R_reads ho1
      have HDE := Lib.hid (delete_calls B1 d1 x.f5 _ hc1 HNO.out)
      have HB1 := Lib.hid (below_then (below_drewN' HB0.out nq) (below_drewN' HB0.out nq).size hb1)
      have k5' := kept_cell (W := W0) (w2 := W1) ⟨hb1.os, hb1.tape, hb1.output, hb1.size, hb1.block⟩ k5
      clear ho1 hl1 hc1 hb1 k5
      go_wp2_with fail
      refine HDE.out.mono ?_
      rintro e W2 ⟨rfl, hb2⟩
      have k5 := kept_cell hb2 k5'
      have HB2 := Lib.hid (below_then HB1.out HB1.out.size hb2)
      clear k5' hb2 HDE HCL HB1
      by_cases d8 : x.f5.length ≤ 8
      rotate_left
      · have g8 : decide ((x.f5.length : Int) ≤ 8) = false := decide_eq_false (by omega)
        have HS := Lib.hid (HE2.out.trans (by rw [decide_eq_false d8]; rfl : _ = false))
        clear d8 HE2
        go_wp2
        go_ret
        exact ⟨ret_bool (HQ.out.trans HS.out).symm, HB2.out⟩
      have g8 : decide ((x.f5.length : Int) ≤ 8) = true := decide_eq_true (by omega)
      have HS := Lib.hid (HE2.out.trans (by rw [decide_eq_true d8, Bool.true_and] : _ = fieldsOk x.f5))
      have HFR := Lib.hid (fieldRight_calls _ ca x.f5 _ (Kd.C_below HRX.out HB2.out))
      clear d8 HE2
      go_wp2_with fail
      refine HFR.out.mono ?_
      rintro e W3 ⟨rfl, hb3⟩
      go_wp2
      go_ret
      exact ⟨ret_bool (HQ.out.trans HS.out).symm, below_then HB2.out HB2.out.size hb3⟩
    have ez : decide (0 < x.f5.length) = false := decide_eq_false hz
    have HE2 := Lib.hid (HEX.out.trans (by rw [ez]; rfl : _ = (decide (x.f5.length ≤ 8) && fieldsOk x.f5)))
    clear HEX hz
    go_big_quiet ((go_at_call 56; exact Calls.quiet_of_same ((HLA.out _).mono fun _ _ hz => ⟨hz.1, hz.2.symm⟩)))
    clear ez
    have HCL := Lib.hid (cloneF_calls _ ca x.f5 _ (Kd.C_below HRX.out (below_drewN' HB0.out nq)) HLE.out)
    have HK5 := Lib.hid k5
    clear HLA HW2 HW3 k0 k1 k2 k3 k4
    go_wp2_with fail
    refine HCL.out.mono ?_
    rintro e W1 ⟨v1, rfl, ho1, hb1⟩
    obtain ⟨B1, d1, rfl, hl1, hc1⟩ := Kd.R_reads ho1
    have HDE := Lib.hid (delete_calls B1 d1 x.f5 _ hc1 HNO.out)
    have HB1 := Lib.hid (below_then (below_drewN' HB0.out nq) (below_drewN' HB0.out nq).size hb1)
    have k5' := kept_cell (W := W0) (w2 := W1) ⟨hb1.os, hb1.tape, hb1.output, hb1.size, hb1.block⟩ k5
    clear ho1 hl1 hc1 hb1 k5
    go_wp2_with fail
    refine HDE.out.mono ?_
    rintro e W2 ⟨rfl, hb2⟩
    have k5 := kept_cell hb2 k5'
    have HB2 := Lib.hid (below_then HB1.out HB1.out.size hb2)
    clear k5' hb2 HDE HCL HB1
    by_cases d8 : x.f5.length ≤ 8
    rotate_left
    · have g8 : decide ((x.f5.length : Int) ≤ 8) = false := decide_eq_false (by omega)
      have HS := Lib.hid (HE2.out.trans (by rw [decide_eq_false d8]; rfl : _ = false))
      clear d8 HE2
      go_wp2
      go_ret
      exact ⟨ret_bool (HQ.out.trans HS.out).symm, HB2.out⟩
    have g8 : decide ((x.f5.length : Int) ≤ 8) = true := decide_eq_true (by omega)
    have HS := Lib.hid (HE2.out.trans (by rw [decide_eq_true d8, Bool.true_and] : _ = fieldsOk x.f5))
    have HFR := Lib.hid (fieldRight_calls _ ca x.f5 _ (Kd.C_below HRX.out HB2.out))
    clear d8 HE2
    go_wp2_with fail
    refine HFR.out.mono ?_
    rintro e W3 ⟨rfl, hb3⟩
    go_wp2
    go_ret
    exact ⟨ret_bool (HQ.out.trans HS.out).symm, below_then HB2.out HB2.out.size hb3⟩

end Go.Proofs.Ytadhfedbgeenlaa.H

/- Tables that may be: table.Right. -/
namespace Go.Proofs.Ytadhfedbgeenlaa.H
open Go.RowKit Go.Proofs.YtadhfedbgeenlaaW.PrintWords Go.Proofs.YtadhfedbgeenlaaW.PrintLast Go.Proofs.YtadhfedbgeenlaaW.PrintMore
set_option linter.unusedVariables false
set_option linter.unusedSimpArgs false

/-- Records that carry no field of a known tag among the others, and few fields. -/
def PlainT (l : List S54) : Prop := ∀ x ∈ l, x.f5.all others = true ∧ x.f5.length ≤ 1000
theorem rd_mem {l : List S54} {k : Nat} (h : k < l.length) : rd_T54 l k ∈ l := by
  rw [show rd_T54 l k = l[k] by simp only [rd_T54, Int.toNat_natCast, List.getD_eq_getElem?_getD, List.getElem?_eq_getElem h, Option.getD_some]]
  exact List.getElem_mem h

set_option maxHeartbeats 2000000 in
set_option maxRecDepth 100000 in
theorem tabRight_calls (A : Option Addr) (c : Nat) (l : List S54) (w : World) (hr : Kd.C k54 w A l.length l) (hp : PlainT l) :
    Calls Try.prog 23 #[.slice A l.length c] w fun e w' => e = .returned (.bool (tabOk l)) ∧ Below w.heap.size w w' := by
  have hm : l.length ≤ 9223372036854775807 := hr.2.1
  have HRR := Lib.hid hr; clear hr
  have HPL := Lib.hid hp; clear hp
  have HD := Lib.hid (show ∀ b, tGo l ⟨#[]⟩ = b → tabOk l = (b && decide (l.length ≤ 20)) from fun b h => by unfold tabOk; rw [h])
  generalize tabOk l = r at *
  go_enter Try.func23, Try.ntmps23
  go_wp2
  go_loopw [3, 8] (fun v3 v8 W => ∃ (k : Nat) (last : ByteArray), k ≤ l.length ∧ v8 = .int .i64 k ∧ v3 = .string last ∧ Aside0 (tGo l ⟨#[]⟩ = tGo (l.drop k) last) ∧ Aside0 (Below w.heap.size w W)) (fun _ v8 _ => l.length - (intOf v8).toNat)
  case atStart => exact ⟨0, _, Nat.zero_le _, rfl, rfl, ⟨rfl⟩, ⟨Below.refl _ _⟩⟩
  case round =>
    obtain ⟨k, last, hk, rfl, rfl, HE, HB⟩ := hrel
    by_cases hlt : k < l.length
    rotate_left
    · obtain rfl : k = l.length := by omega
      have HQ := Lib.hid (HD.out true (by rw [HE.out, List.drop_length]; rfl))
      clear hlt HE HD
      by_cases hl : l.length ≤ 20
      · have e1 : (l.length : Int) ≤ 20 := by omega
        have HS := Lib.hid (HQ.out.trans (by rw [decide_eq_true hl]; rfl : _ = true)); clear hl HQ
        go_wp2
        go_ret
        exact ⟨ret_bool HS.out.symm, HB.out⟩
      · have e1 : ¬ (l.length : Int) ≤ 20 := by omega
        have HS := Lib.hid (HQ.out.trans (by rw [decide_eq_false hl]; rfl : _ = false)); clear hl HQ
        go_wp2
        go_ret
        exact ⟨ret_bool HS.out.symm, HB.out⟩
    obtain ⟨ad, A5, c5, hA, h0, h1, h2, h3, h4, h5, hl, hf⟩ := at_T54 HRR.out k (by omega) (by omega)
    subst hA
    rw [Int.toNat_natCast] at h0 h1 h2 h3 h4 h5
    replace h0 := kept_cell HB.out h0
    replace h1 := kept_cell HB.out h1
    replace h2 := kept_cell HB.out h2
    replace h3 := kept_cell HB.out h3
    replace h4 := kept_cell HB.out h4
    replace h5 := kept_cell HB.out h5
    have hx : tGo (l.drop k) last = if recOk 2 (rd_T54 l k) = false ∨ kLe (rd_T54 l k).f0 last = true then false else tGo (l.drop (k + 1)) (rd_T54 l k).f0 := by
      rw [drop_getD l z54 hlt, tGo]; rfl
    have HX := Lib.hid (HE.out.trans hx); clear hx HE
    have HPX := Lib.hid (HPL.out _ (rd_mem hlt))
    generalize rd_T54 l k = x at *
    have b1 : (0 : Int) ≤ k := by omega
    have b2 : (k : Int) < l.length := by omega
    go_upto_region 4 with (fail)
    go_cut [5] (fun v5 W => ∃ g : Nat, v5 = .pointer (some ⟨g, 0, none⟩) ∧ Aside0 (Below w.heap.size w W ∧ W.heap[g]? = some (.cells #[.string x.f0, .string x.f1, .int .i64 x.f2, .int .i64 x.f3, .string x.f4, .slice A5 x.f5.length c5] 54 (0, 0))))
    case first =>
      go_wp2
      go_meet
      case rel => first | exact ⟨_, rfl, ⟨below_alloc HB.out _, new_at rfl _⟩⟩ | ((repeat apply Exists.intro); exact ⟨⟨_, rfl, ⟨below_alloc HB.out _, new_at rfl _⟩⟩, rfl⟩)
    clear h0 h1 h2 h3 h4 h5 HB hl
    obtain ⟨g, rfl, HA⟩ := hcut
    obtain ⟨k0, k1, k2, k3, k4, k5, kf, kl⟩ := six_cells HA.out.2
    have HC := Lib.hid (recRight_calls 2 x A5 c5 _ (Kd.C_below hf HA.out.1) HPX.out.1 HPX.out.2 (Or.inr rfl))
    clear hf
    cases hrc : recOk 2 x
    · have HQ := Lib.hid (HD.out false (by rw [HX.out, if_pos (Or.inl hrc)]))
      rw [hrc] at HC
      clear HX HD hrc
      go_wp2_with fail
      refine HC.out.mono ?_
      rintro e W1 ⟨rfl, hb⟩
      go_wp2
      go_ret
      exact ⟨ret_bool HQ.out.symm, below_then HA.out.1 HA.out.1.size hb⟩
    rw [hrc] at HC
    have HRC := Lib.hid hrc; clear hrc
    cases hc1 : kLt x.f0 last
    rotate_left
    · have HQ := Lib.hid (HD.out false (by rw [HX.out, if_pos (Or.inr (by unfold kLe; rw [hc1]; rfl))]))
      have e1 : Op.bytesLess x.f0.toList last.toList = true := hc1
      clear HX HD hc1
      go_wp2_with fail
      refine HC.out.mono ?_
      rintro e W1 ⟨rfl, hb⟩
      replace k0 := kept_cell hb k0
      go_wp2
      go_ret
      exact ⟨ret_bool HQ.out.symm, below_then HA.out.1 HA.out.1.size hb⟩
    have e1 : Op.bytesLess x.f0.toList last.toList = false := hc1
    cases hc2 : (x.f0.toList == last.toList)
    rotate_left
    · have HQ := Lib.hid (HD.out false (by rw [HX.out, if_pos (Or.inr (by unfold kLe; rw [hc1, hc2]; rfl))]))
      clear HX HD hc1
      go_wp2_with fail
      refine HC.out.mono ?_
      rintro e W1 ⟨rfl, hb⟩
      replace k0 := kept_cell hb k0
      go_wp2
      go_ret
      exact ⟨ret_bool HQ.out.symm, below_then HA.out.1 HA.out.1.size hb⟩
    have HQ := Lib.hid (HX.out.trans (if_neg (by
      rintro (h | h)
      · rw [HRC.out] at h; cases h
      · unfold kLe at h; rw [hc1, hc2] at h; cases h)))
    clear HX HD hc1
    go_wp2_with fail
    refine HC.out.mono ?_
    rintro e W1 ⟨rfl, hb⟩
    replace k0 := kept_cell hb k0
    go_wp2
    go_roundw
    case rel => exact ⟨k + 1, x.f0, by omega, by go_num, rfl, ⟨HQ.out⟩, ⟨below_then HA.out.1 HA.out.1.size hb⟩⟩
    case measure => simp [intOf]; omega

end Go.Proofs.Ytadhfedbgeenlaa.H

/- Ops that may be. -/
namespace Go.Proofs.Ytadhfedbgeenlaa.H
open Go.RowKit Go.Proofs.YtadhfedbgeenlaaW.PrintWords Go.Proofs.YtadhfedbgeenlaaW.PrintLast Go.Proofs.YtadhfedbgeenlaaW.PrintMore
set_option linter.unusedVariables false
set_option linter.unusedSimpArgs false

def badOp (o : S36) : Prop := o.f0 < 1 ∨ 6 < o.f0 ∨ (o.f1 = ⟨#[]⟩ ∧ ¬ o.f0 = 6) ∨ 16 < o.f1.size ∨ 16 < o.f4.size ∨ 200 < o.f2.size ∨ 40 < o.f6.size ∨ o.f3 < 0 ∨ 9007199254740992 < o.f3 ∨ o.f5 < 0 ∨ 9007199254740992 < o.f5
instance (o : S36) : Decidable (badOp o) := by unfold badOp; infer_instance
def checkE (o : S36) : Int := if badOp o then 1 else 0
theorem checkE_no {o : S36} (h : badOp o) : checkE o = 1 := if_pos h
theorem checkE_yes {o : S36} (h : ¬ badOp o) : checkE o = 0 := if_neg h
theorem within1_calls (n : Int) (w : World) :
    Calls Try.prog 61 #[.int .i64 n] w fun e w' => e = .returned (.bool (decide (0 ≤ n) && decide (n ≤ 9007199254740992))) ∧ w = w' := by
  go_enter Try.func61, Try.ntmps61
  go_wp2
  all_goals (go_ret; refine ⟨?_, rfl⟩; simp_all <;> (intros; omega))

set_option maxHeartbeats 4000000 in
set_option maxRecDepth 100000 in
theorem check2_calls (o : S36) (w : World) :
    Calls Try.prog 31 #[.int .i64 2, .agg #[.int .i64 o.f0, .string o.f1, .string o.f2, .int .i64 o.f3, .string o.f4, .int .i64 o.f5, .string o.f6]] w fun e w' => e = .returned (.int .i64 (checkE o)) ∧ Below w.heap.size w w' := by
  have HN := Lib.hid (fun h => checkE_no (o := o) h)
  have HY := Lib.hid (fun h => checkE_yes (o := o) h)
  generalize checkE o = r at *
  generalize hW0 : w.alloc (.cells #[.int .i64 o.f0, .string o.f1, .string o.f2, .int .i64 o.f3, .string o.f4, .int .i64 o.f5, .string o.f6] 36) = W0
  have HB0 := Lib.hid (show Below w.heap.size w W0 by rw [← hW0]; exact below_alloc (Below.refl _ _) _)
  have HK0 := Lib.hid (show W0.heap[w.heap.size]? = some (.cells #[.int .i64 o.f0, .string o.f1, .string o.f2, .int .i64 o.f3, .string o.f4, .int .i64 o.f5, .string o.f6] 36 (0, 0)) by rw [← hW0]; exact new_at rfl _)
  have HW0 := Lib.hid hW0; clear hW0
  obtain ⟨k0, k1, k2, k3, k4, k5, k6, _, kl⟩ := seven_cells HK0.out
  go_enter Try.func31, Try.ntmps31
  go_upto_region 1 with (fail)
  rw [HW0.out]
  by_cases d0 : o.f0 < 1
  · have HQ := Lib.hid (HN.out (Or.inl d0))
    have g0 : decide (o.f0 < 1) = true := decide_eq_true (by omega)
    clear HN HY
    go_wp2
    go_ret
    exact ⟨ret_int HQ.out.symm, HB0.out⟩
  have g0 : decide (o.f0 < 1) = false := decide_eq_false (by omega)
  by_cases d1 : 6 < o.f0
  · have HQ := Lib.hid (HN.out (Or.inr (Or.inl d1)))
    have g1 : decide (6 < o.f0) = true := decide_eq_true (by omega)
    clear HN HY
    go_wp2
    go_ret
    exact ⟨ret_int HQ.out.symm, HB0.out⟩
  have g1 : decide (6 < o.f0) = false := decide_eq_false (by omega)
  by_cases d3 : 16 < o.f1.size
  · have HQ := Lib.hid (HN.out (Or.inr (Or.inr (Or.inr (Or.inl d3)))))
    have g3 : decide ((16 : Int) < o.f1.size) = true := decide_eq_true (by omega)
    clear HN HY
    go_wp2
    go_ret
    exact ⟨ret_int HQ.out.symm, HB0.out⟩
  have g3 : decide ((16 : Int) < o.f1.size) = false := decide_eq_false (by omega)
  by_cases dk : o.f1 = ⟨#[]⟩
  · have gk := emp_yes dk
    have gk2 := str_none dk
    by_cases d2 : o.f0 = 6
    rotate_left
    · have HQ := Lib.hid (HN.out (Or.inr (Or.inr (Or.inl ⟨dk, d2⟩))))
      have g2 : (o.f0 != 6) = true := by simpa using d2
      clear dk
      clear HN HY
      go_wp2
      go_ret
      exact ⟨ret_int HQ.out.symm, HB0.out⟩
    have g2 : (o.f0 != 6) = false := by simpa using d2
    have DK := Lib.hid d2; clear d2
    have DK2 := Lib.hid dk; clear dk
    by_cases d5 : 200 < o.f2.size
    · have HQ := Lib.hid (HN.out (Or.inr (Or.inr (Or.inr (Or.inr (Or.inr (Or.inl d5)))))))
      have g5 : decide ((200 : Int) < o.f2.size) = true := decide_eq_true (by omega)
      clear HN HY
      go_wp2
      go_ret
      exact ⟨ret_int HQ.out.symm, HB0.out⟩
    have g5 : decide ((200 : Int) < o.f2.size) = false := decide_eq_false (by omega)
    by_cases d4 : 16 < o.f4.size
    · have HQ := Lib.hid (HN.out (Or.inr (Or.inr (Or.inr (Or.inr (Or.inl d4))))))
      have g4 : decide ((16 : Int) < o.f4.size) = true := decide_eq_true (by omega)
      clear HN HY
      go_wp2
      go_ret
      exact ⟨ret_int HQ.out.symm, HB0.out⟩
    have g4 : decide ((16 : Int) < o.f4.size) = false := decide_eq_false (by omega)
    by_cases d6 : 40 < o.f6.size
    · have HQ := Lib.hid (HN.out (Or.inr (Or.inr (Or.inr (Or.inr (Or.inr (Or.inr (Or.inl d6))))))))
      have g6 : decide ((40 : Int) < o.f6.size) = true := decide_eq_true (by omega)
      clear HN HY
      go_wp2
      go_ret
      exact ⟨ret_int HQ.out.symm, HB0.out⟩
    have g6 : decide ((40 : Int) < o.f6.size) = false := decide_eq_false (by omega)
    by_cases d7 : o.f3 < 0
    · have HQ := Lib.hid (HN.out (Or.inr (Or.inr (Or.inr (Or.inr (Or.inr (Or.inr (Or.inr (Or.inl d7)))))))))
      have g7 : decide (o.f3 < 0) = true := decide_eq_true (by omega)
      clear HN HY
      go_wp2
      go_ret
      exact ⟨ret_int HQ.out.symm, HB0.out⟩
    have g7 : decide (o.f3 < 0) = false := decide_eq_false (by omega)
    by_cases d8 : 9007199254740992 < o.f3
    · have HQ := Lib.hid (HN.out (Or.inr (Or.inr (Or.inr (Or.inr (Or.inr (Or.inr (Or.inr (Or.inr (Or.inl d8))))))))))
      have g8 : decide (9007199254740992 < o.f3) = true := decide_eq_true (by omega)
      clear HN HY
      go_wp2
      go_ret
      exact ⟨ret_int HQ.out.symm, HB0.out⟩
    have g8 : decide (9007199254740992 < o.f3) = false := decide_eq_false (by omega)
    by_cases d9 : o.f5 < 0
    · have HQ := Lib.hid (HN.out (Or.inr (Or.inr (Or.inr (Or.inr (Or.inr (Or.inr (Or.inr (Or.inr (Or.inr (Or.inl d9)))))))))))
      have g9 : decide (o.f5 < 0) = true := decide_eq_true (by omega)
      clear HN HY
      go_wp2
      go_ret
      exact ⟨ret_int HQ.out.symm, HB0.out⟩
    have g9 : decide (o.f5 < 0) = false := decide_eq_false (by omega)
    by_cases d10 : 9007199254740992 < o.f5
    · have HQ := Lib.hid (HN.out (Or.inr (Or.inr (Or.inr (Or.inr (Or.inr (Or.inr (Or.inr (Or.inr (Or.inr (Or.inr (d10))))))))))))
      have g10 : decide (9007199254740992 < o.f5) = true := decide_eq_true (by omega)
      clear HN HY
      go_wp2
      go_ret
      exact ⟨ret_int HQ.out.symm, HB0.out⟩
    have g10 : decide (9007199254740992 < o.f5) = false := decide_eq_false (by omega)
    have HQ := Lib.hid (HY.out (by rintro (h | h | h | h | h | h | h | h | h | h | h); exact absurd h d0; exact absurd h d1; exact h.2 DK.out; exact d3 h; exact d4 h; exact d5 h; exact d6 h; exact absurd h d7; exact absurd h d8; exact absurd h d9; exact absurd h d10))
    clear HN HY d3 d4 d5 d6
    go_wp2
    go_ret
    exact ⟨ret_int HQ.out.symm, HB0.out⟩
  have gk := emp_no dk
  have gk2 := str_some dk
  have DK := Lib.hid dk; clear dk
  by_cases d5 : 200 < o.f2.size
  · have HQ := Lib.hid (HN.out (Or.inr (Or.inr (Or.inr (Or.inr (Or.inr (Or.inl d5)))))))
    have g5 : decide ((200 : Int) < o.f2.size) = true := decide_eq_true (by omega)
    clear HN HY
    go_wp2
    go_ret
    exact ⟨ret_int HQ.out.symm, HB0.out⟩
  have g5 : decide ((200 : Int) < o.f2.size) = false := decide_eq_false (by omega)
  by_cases d4 : 16 < o.f4.size
  · have HQ := Lib.hid (HN.out (Or.inr (Or.inr (Or.inr (Or.inr (Or.inl d4))))))
    have g4 : decide ((16 : Int) < o.f4.size) = true := decide_eq_true (by omega)
    clear HN HY
    go_wp2
    go_ret
    exact ⟨ret_int HQ.out.symm, HB0.out⟩
  have g4 : decide ((16 : Int) < o.f4.size) = false := decide_eq_false (by omega)
  by_cases d6 : 40 < o.f6.size
  · have HQ := Lib.hid (HN.out (Or.inr (Or.inr (Or.inr (Or.inr (Or.inr (Or.inr (Or.inl d6))))))))
    have g6 : decide ((40 : Int) < o.f6.size) = true := decide_eq_true (by omega)
    clear HN HY
    go_wp2
    go_ret
    exact ⟨ret_int HQ.out.symm, HB0.out⟩
  have g6 : decide ((40 : Int) < o.f6.size) = false := decide_eq_false (by omega)
  by_cases d7 : o.f3 < 0
  · have HQ := Lib.hid (HN.out (Or.inr (Or.inr (Or.inr (Or.inr (Or.inr (Or.inr (Or.inr (Or.inl d7)))))))))
    have g7 : decide (o.f3 < 0) = true := decide_eq_true (by omega)
    clear HN HY
    go_wp2
    go_ret
    exact ⟨ret_int HQ.out.symm, HB0.out⟩
  have g7 : decide (o.f3 < 0) = false := decide_eq_false (by omega)
  by_cases d8 : 9007199254740992 < o.f3
  · have HQ := Lib.hid (HN.out (Or.inr (Or.inr (Or.inr (Or.inr (Or.inr (Or.inr (Or.inr (Or.inr (Or.inl d8))))))))))
    have g8 : decide (9007199254740992 < o.f3) = true := decide_eq_true (by omega)
    clear HN HY
    go_wp2
    go_ret
    exact ⟨ret_int HQ.out.symm, HB0.out⟩
  have g8 : decide (9007199254740992 < o.f3) = false := decide_eq_false (by omega)
  by_cases d9 : o.f5 < 0
  · have HQ := Lib.hid (HN.out (Or.inr (Or.inr (Or.inr (Or.inr (Or.inr (Or.inr (Or.inr (Or.inr (Or.inr (Or.inl d9)))))))))))
    have g9 : decide (o.f5 < 0) = true := decide_eq_true (by omega)
    clear HN HY
    go_wp2
    go_ret
    exact ⟨ret_int HQ.out.symm, HB0.out⟩
  have g9 : decide (o.f5 < 0) = false := decide_eq_false (by omega)
  by_cases d10 : 9007199254740992 < o.f5
  · have HQ := Lib.hid (HN.out (Or.inr (Or.inr (Or.inr (Or.inr (Or.inr (Or.inr (Or.inr (Or.inr (Or.inr (Or.inr (d10))))))))))))
    have g10 : decide (9007199254740992 < o.f5) = true := decide_eq_true (by omega)
    clear HN HY
    go_wp2
    go_ret
    exact ⟨ret_int HQ.out.symm, HB0.out⟩
  have g10 : decide (9007199254740992 < o.f5) = false := decide_eq_false (by omega)
  have HQ := Lib.hid (HY.out (by rintro (h | h | h | h | h | h | h | h | h | h | h); exact absurd h d0; exact absurd h d1; exact DK.out h.1; exact d3 h; exact d4 h; exact d5 h; exact d6 h; exact absurd h d7; exact absurd h d8; exact absurd h d9; exact absurd h d10))
  clear HN HY d3 d4 d5 d6
  go_wp2
  go_ret
  exact ⟨ret_int HQ.out.symm, HB0.out⟩

end Go.Proofs.Ytadhfedbgeenlaa.H
