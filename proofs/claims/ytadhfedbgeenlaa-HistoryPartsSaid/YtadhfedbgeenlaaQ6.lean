/- Parts of the proof, merged: Kn, Ko, Kp, Kq, Ks. -/
import Derived.Test.YtadhfedbgeenlaaQ5
import Derived.BigRegion
import Derived.Deep.RegionHeld3
/- Insert, all ways; the desk's put where the key is not there. -/
namespace Go.Proofs.Ytadhfedbgeenlaa.H
open Go.RowKit Go.Proofs.YtadhfedbgeenlaaW.PrintWords Go.Proofs.YtadhfedbgeenlaaW.PrintLast Go.Proofs.YtadhfedbgeenlaaW.PrintMore
set_option linter.unusedVariables false
set_option linter.unusedSimpArgs false
theorem insert_calls (base : Nat) (w0 : World) (A : Option Addr) (n c i vb : Nat) (key val : ByteArray) (l : List S54) (ok : Nat → Prop) (w : World) (hN : Kd.N k54 54 w base ok (.slice A n c) l) (hn : n ≤ 1000) (hi : i ≤ n) (hB : Below base w0 w) (hbw : base ≤ w.heap.size) (hof : ∀ j, w.heap.size ≤ j → ok j)
    (hv : w.heap[vb]? = some (.cells #[.string key, .string val, .int .i64 1, .int .i64 0, .string ⟨#[]⟩, .slice none 0 0] 54 (0, 0))) (hvo : ok vb) (hvA : some vb ≠ (Value.slice A n c).ownBlock) :
    Calls Try.prog 66 #[.slice A n c, .int .i64 i, .slice (some ⟨vb, 0, none⟩) 1 1] w fun e w' => ∃ v, e = .returned v ∧ Kd.N k54 54 w' base ok v (l.take i ++ ⟨key, val, 1, 0, ⟨#[]⟩, []⟩ :: l.drop i) ∧ Below base w0 w' ∧ w.heap.size ≤ w'.heap.size ∧ ∀ k, k < w.heap.size → some k ≠ (Value.slice A n c).ownBlock → w'.heap[k]? = w.heap[k]? := by
  have hnl := (Kd.N_reads' hN).1
  rcases Nat.eq_or_lt_of_le hi with rfl | hlt
  · refine (insertE_calls base w0 A i c vb key val l ok w hN hn hB hbw hof hv hvo hvA).mono ?_
    rintro e w' ⟨v, rfl, h1, h2, h3⟩
    refine ⟨v, rfl, ?_, h2, h3.size, h3.block⟩
    rw [hnl, List.take_length, List.drop_length]
    exact h1
  · have hA : ∃ g, A = some ⟨g, 0, none⟩ := by
      subst hnl
      obtain ⟨g, cap, he, _⟩ := Kd.N_form hN (by omega)
      injection he with he1
      exact ⟨g, he1⟩
    obtain ⟨g, rfl⟩ := hA
    have hvg : vb ≠ g := fun e => hvA (by rw [e]; simp [Value.ownBlock])
    rcases Nat.lt_or_ge c (n + 1) with hc | hc
    · refine (insertG_calls base w0 g n c i vb key val l ok w hN hn hlt hc hB hbw hof hv).mono ?_
      rintro e w' ⟨v, rfl, h1, h2, h3⟩
      exact ⟨v, rfl, h1, h2, h3.1, fun k hk hkg => h3.2 k hk (fun e => hkg (by rw [e]; simp [Value.ownBlock]))⟩
    · refine (insertM_calls base w0 g n c i vb key val l ok w hN hn hlt hc hB hbw hv hvg).mono ?_
      rintro e w' ⟨v, rfl, h1, h2, h3⟩
      exact ⟨v, rfl, h1, h2, h3.1, fun k hk hkg => h3.2 k hk (fun e => hkg (by rw [e]; simp [Value.ownBlock]))⟩
theorem keepT_own {w w' : World} {base : Nat} {ok : Nat → Prop} {v : Value} {l : List S54} (hN : Kd.N k54 54 w base ok v l) (hs : w.heap.size ≤ w'.heap.size) (hk : ∀ k, k < w.heap.size → some k ≠ v.ownBlock → w'.heap[k]? = w.heap[k]?) : KeepT w w' :=
  ⟨hs, fun k cs t hj h1 _ => (hk k (blk_lt hj) (Kd.N_ne hN hj (fun e => h1 e.symm))).trans hj⟩
theorem KeepT.setD {w W : World} {d o : Nat} {cs : Array Value} (h : KeepT w W) (hd : W.heap[d]? = some (.cells cs 75 (0, 0))) (u : Value) : KeepT w (W.setCell ⟨d, o, none⟩ u) :=
  ⟨by simpa using h.1, fun k cs' t hj h1 h2 => by
    have hk := h.2 k cs' t hj h1 h2
    exact blk_far hk (p := ⟨d, o, none⟩) (fun e => by subst e; rw [show W.heap[k]? = _ from hd] at hk; injection hk with hk; injection hk with _ hk; exact h2 hk.symm) _⟩

set_option maxHeartbeats 4000000 in
set_option maxRecDepth 100000 in
theorem put0_calls (base : Nat) (w0 : World) (d : Nat) (o : S36) (p : Nat) (l : List S54) (A : Option Addr) (c : Nat) (ok : Nat → Prop) (w : World) (hD : DeskG base w0 d o p false l A c ok w) (hof : ∀ j, w.heap.size ≤ j → ok j) (hp : p ≤ l.length) (hl : l.length ≤ 1000) (hbw : base ≤ w.heap.size) :
    Calls Try.prog 45 #[.pointer (some ⟨d, 0, none⟩)] w (GotM base w0 d o p false ok w (putP l o p false)) := by
  obtain ⟨r, hr⟩ : ∃ r, r = putP l o p false := ⟨_, rfl⟩
  rw [← hr]
  generalize hW0 : (w.alloc (.cells #[.pointer (some ⟨d, 0, none⟩)] 73)).alloc (.cells #[.int .i64 0, .int .i64 0, .string ⟨#[]⟩, .slice none 0 0] 34) = W0
  have HB0 := Lib.hid (show Below w.heap.size w W0 by rw [← hW0]; exact below_alloc (below_alloc (Below.refl _ _) _) _)
  have HK0 := Lib.hid (show W0.heap[w.heap.size]? = some (.cells #[.pointer (some ⟨d, 0, none⟩)] 73 (0, 0)) by rw [← hW0]; exact alloc_on (new_at rfl _) _)
  have HK1 := Lib.hid (show W0.heap[w.heap.size + 1]? = some (.cells #[.int .i64 0, .int .i64 0, .string ⟨#[]⟩, .slice none 0 0] 34 (0, 0)) by rw [← hW0]; exact new_at (by simp) _)
  have HSZ := Lib.hid (show W0.heap.size = w.heap.size + 2 by rw [← hW0]; simp)
  have HW0 := Lib.hid hW0; clear hW0
  have HDL := Lib.hid (blk_lt hD.2.2.1)
  have HD := Lib.hid ((wide_ok hD (w.heap.size + 1) (by omega)).below hbw HB0.out)
  have HP := Lib.hid (hr.trans (show putP l o p false = if 20 ≤ l.length then (l, ⟨50, 0, ⟨#[]⟩, []⟩) else (l.take p ++ ⟨o.f1, o.f2, 1, 0, ⟨#[]⟩, []⟩ :: l.drop p, ⟨0, 1, ⟨#[]⟩, []⟩) from if_neg (by decide)))
  have HOF := Lib.hid hof
  obtain ⟨k0, k1, k2, k3, k4, k5, k6, k7, k8, k9, kl⟩ := ten_cells HD.out.2.2.1
  obtain ⟨q0, q1, q2, q3, _, ql⟩ := four_cells HK1.out
  have p0 : W0.cell? ⟨w.heap.size, 0, none⟩ = some (.pointer (some ⟨d, 0, none⟩)) := (blk_cell HK0.out 0).trans rfl
  clear hD hr hof
  go_enter Try.func45, Try.ntmps45
  go_upto_region 1 with (fail)
  rw [HW0.out]
  clear HW0
  by_cases h20 : 20 ≤ l.length
  · have e1 : (20 : Int) ≤ l.length := by omega
    have HQ := Lib.hid (HP.out.trans (if_pos h20))
    have HF := Lib.hid (fault_calls 50 W0)
    clear HP h20
    go_wp2_with fail
    refine HF.out.mono ?_
    rintro e W1 ⟨rfl, hb1⟩
    have HK2 := Lib.hid (kept_on hb1 HK1.out)
    have HB1 := Lib.hid hb1
    have HD1 := Lib.hid (HD.out.below (by have := HSZ.out; omega) hb1)
    clear q0 q1 q2 q3 ql hb1 k0 k1 k2 k3 k4 k5 k6 k7 k8 k9 kl p0
    obtain ⟨q0, q1, q2, q3, _, ql⟩ := four_cells HK2.out
    have q0f := blk_frozen HK2.out 0
    have q1f := blk_frozen HK2.out 1
    have q2f := blk_frozen HK2.out 2
    have q3f := blk_frozen HK2.out 3
    go_wp2
    exact ret_P1 Try.results45 rfl rfl (put4_at HK2.out) (gotM_mk HQ.out (HD1.out.put4 (fun j hj => hj.2) (by have := HDL.out; omega) (by omega)) (fun _ h => h.1) (((keepT_below HB0.out).trans (keepT_below HB1.out)).put4 (by omega)))
  have e1 : ¬ (20 : Int) ≤ l.length := by omega
  have e1' : decide ((20 : Int) ≤ l.length) = false := decide_eq_false e1
  have HQ := Lib.hid (HP.out.trans (if_neg h20))
  have HIN := Lib.hid (fun (W : World) (vb : Nat) (hW : Below W0.heap.size W0 W) (hv : W.heap[vb]? = some (.cells #[.string o.f1, .string o.f2, .int .i64 1, .int .i64 0, .string ⟨#[]⟩, .slice none 0 0] 54 (0, 0))) (hvb : W0.heap.size ≤ vb) =>
    insert_calls base w0 A l.length c p vb o.f1 o.f2 l (fun j => (base ≤ j ∧ j ≠ d) ∧ ok j ∧ j ≠ w.heap.size + 1) W (Kd.N_below HD.out.2.2.2 hW) hl hp (below_then HD.out.2.1 (by have := HSZ.out; omega) hW) (by have := HSZ.out; have := hW.size; omega) (fun j hj => by have := HSZ.out; have := hW.size; have := HDL.out; exact ⟨⟨by omega, by omega⟩, HOF.out j (by omega), by omega⟩) hv (by have := HSZ.out; have := HDL.out; exact ⟨⟨by omega, by omega⟩, HOF.out vb (by omega), by omega⟩) (fun e => by have := Kd.N_lt HD.out.2.2.2 vb e.symm; omega))
  have HB5 := Lib.hid (show Below W0.heap.size W0 (W0.alloc (.cells #[.string o.f1, .string o.f2, .int .i64 1, .int .i64 0, .string ⟨#[]⟩, .slice none 0 0] 54)).drew from below_drew (below_alloc (Below.refl _ _) _))
  have HV5 := Lib.hid (show (W0.alloc (.cells #[.string o.f1, .string o.f2, .int .i64 1, .int .i64 0, .string ⟨#[]⟩, .slice none 0 0] 54)).drew.heap[W0.heap.size]? = some (.cells #[.string o.f1, .string o.f2, .int .i64 1, .int .i64 0, .string ⟨#[]⟩, .slice none 0 0] 54 (0, 0)) from new_at (W := W0) rfl _)
  have HIN2 := Lib.hid (HIN.out (W0.alloc (.cells #[.string o.f1, .string o.f2, .int .i64 1, .int .i64 0, .string ⟨#[]⟩, .slice none 0 0] 54)).drew W0.heap.size HB5.out HV5.out (Nat.le_refl _))
  have HKD := Lib.hid (show (W0.alloc (.cells #[.string o.f1, .string o.f2, .int .i64 1, .int .i64 0, .string ⟨#[]⟩, .slice none 0 0] 54)).drew.heap[d]? = _ from kept_on HB5.out HD.out.2.2.1)
  have HK2 := Lib.hid (show (W0.alloc (.cells #[.string o.f1, .string o.f2, .int .i64 1, .int .i64 0, .string ⟨#[]⟩, .slice none 0 0] 54)).drew.heap[w.heap.size + 1]? = _ from kept_on HB5.out HK1.out)
  have HND := Lib.hid (show some d ≠ (Value.slice A l.length c).ownBlock from fun e => (HD.out.2.2.2.1 d e.symm).1.2 rfl)
  have HN1 := Lib.hid (show some (w.heap.size + 1) ≠ (Value.slice A l.length c).ownBlock from fun e => (HD.out.2.2.2.1 _ e.symm).2.2 rfl)
  have HT5 := Lib.hid (fun (W2 : World) h1 h2 => (keepT_below HB0.out).trans ((keepT_below HB5.out).trans (keepT_own (Kd.N_below HD.out.2.2.2 HB5.out) (w' := W2) h1 h2)))
  clear HP h20 HIN
  generalize l.take p ++ ⟨o.f1, o.f2, 1, 0, ⟨#[]⟩, []⟩ :: l.drop p = l2 at *
  have HBN := Lib.hid (show w.heap.size ≠ d by have := HDL.out; omega)
  have HSA := Lib.hid (show W0.drew.cell? ⟨w.heap.size, 0, none⟩ = some (.pointer (some ⟨d, 0, none⟩)) ∧ W0.drew.cell? ⟨d, 2, none⟩ = some (.string o.f1) ∧ W0.drew.cell? ⟨d, 3, none⟩ = some (.string o.f2) ∧ W0.drew.cell? ⟨d, 8, none⟩ = some (.int .i64 p) from ⟨p0, k2, k3, k8⟩)
  have HSB := Lib.hid (show (W0.alloc (.cells #[.string o.f1, .string o.f2, .int .i64 1, .int .i64 0, .string ⟨#[]⟩, .slice none 0 0] 54)).drew.cell? ⟨w.heap.size, 0, none⟩ = some (.pointer (some ⟨d, 0, none⟩)) ∧ (W0.alloc (.cells #[.string o.f1, .string o.f2, .int .i64 1, .int .i64 0, .string ⟨#[]⟩, .slice none 0 0] 54)).drew.cell? ⟨d, 2, none⟩ = some (.string o.f1) ∧ (W0.alloc (.cells #[.string o.f1, .string o.f2, .int .i64 1, .int .i64 0, .string ⟨#[]⟩, .slice none 0 0] 54)).drew.cell? ⟨d, 3, none⟩ = some (.string o.f2) ∧ (W0.alloc (.cells #[.string o.f1, .string o.f2, .int .i64 1, .int .i64 0, .string ⟨#[]⟩, .slice none 0 0] 54)).drew.cell? ⟨d, 8, none⟩ = some (.int .i64 p) from ⟨kept_cell HB5.out p0, kept_cell HB5.out k2, kept_cell HB5.out k3, kept_cell HB5.out k8⟩)
  have HSC := Lib.hid (fun (W : World) (u : Value) (h : W.cell? ⟨w.heap.size, 0, none⟩ = some (.pointer (some ⟨d, 0, none⟩)) ∧ W.cell? ⟨d, 2, none⟩ = some (.string o.f1) ∧ W.cell? ⟨d, 3, none⟩ = some (.string o.f2) ∧ W.cell? ⟨d, 8, none⟩ = some (.int .i64 p)) => (show (W.setCell ⟨d, 0, none⟩ u).cell? ⟨w.heap.size, 0, none⟩ = some (.pointer (some ⟨d, 0, none⟩)) ∧ (W.setCell ⟨d, 0, none⟩ u).cell? ⟨d, 2, none⟩ = some (.string o.f1) ∧ (W.setCell ⟨d, 0, none⟩ u).cell? ⟨d, 3, none⟩ = some (.string o.f2) ∧ (W.setCell ⟨d, 0, none⟩ u).cell? ⟨d, 8, none⟩ = some (.int .i64 p) from ⟨(World.cell?_setCell_other W _ _ u (by simp [HBN.out.symm])).trans h.1, (World.cell?_setCell_other W _ _ u (by simp)).trans h.2.1, (World.cell?_setCell_other W _ _ u (by simp)).trans h.2.2.1, (World.cell?_setCell_other W _ _ u (by simp)).trans h.2.2.2⟩))
  have HBX := Lib.hid (show some w.heap.size ≠ (Value.slice A l.length c).ownBlock from Kd.N_ne HD.out.2.2.2 HK0.out (by decide))
  have HKB := Lib.hid (show (W0.alloc (.cells #[.string o.f1, .string o.f2, .int .i64 1, .int .i64 0, .string ⟨#[]⟩, .slice none 0 0] 54)).drew.heap[w.heap.size]? = _ from kept_on HB5.out HK0.out)
  go_upto_region 5 with (fail)
  refine wp_region_held_drew (S := fun W => W.cell? ⟨w.heap.size, 0, none⟩ = some (.pointer (some ⟨d, 0, none⟩)) ∧ W.cell? ⟨d, 2, none⟩ = some (.string o.f1) ∧ W.cell? ⟨d, 3, none⟩ = some (.string o.f2) ∧ W.cell? ⟨d, 8, none⟩ = some (.int .i64 p)) (by kernel_rfl) HSA.out (fun hHeld => ?_)
  refine wpAnyH_take (i := 0) (oi := _) (v := ?_) rfl (by kernel_rfl) (by kernel_rfl) (by kernel_rfl) (fun _ _ _ h => h) (Or.inl ⟨by rfl, ?_⟩) hHeld ?_
  rotate_left
  · intro w hSw
    try dsimp only at hSw
    go_simp
    all_goals with_reducible rfl
  try simp only [List.getElem_toArray, List.getElem_cons_zero, List.getElem_cons_succ, Act.put, List.setIfInBounds_toArray, List.set_cons_zero, List.set_cons_succ]
  refine wpAnyH_take (i := 1) (oi := _) (v := ?_) rfl (by kernel_rfl) (by kernel_rfl) (by kernel_rfl) (fun _ _ _ h => h) (Or.inl ⟨by rfl, ?_⟩) hHeld ?_
  rotate_left
  · intro w hSw
    try dsimp only at hSw
    go_simp
    all_goals with_reducible rfl
  try simp only [List.getElem_toArray, List.getElem_cons_zero, List.getElem_cons_succ, Act.put, List.setIfInBounds_toArray, List.set_cons_zero, List.set_cons_succ]
  refine wpAnyH_take (i := 2) (oi := _) (v := ?_) rfl (by kernel_rfl) (by kernel_rfl) (by kernel_rfl) (fun _ _ _ h => h) (Or.inl ⟨by rfl, ?_⟩) hHeld ?_
  rotate_left
  · intro w hSw
    try dsimp only at hSw
    go_simp
    all_goals with_reducible rfl
  try simp only [List.getElem_toArray, List.getElem_cons_zero, List.getElem_cons_succ, Act.put, List.setIfInBounds_toArray, List.set_cons_zero, List.set_cons_succ]
  refine wpAnyH_take (i := 3) (oi := _) (v := ?_) rfl (by kernel_rfl) (by kernel_rfl) (by kernel_rfl) (fun _ _ _ h => h) (Or.inl ⟨by rfl, ?_⟩) hHeld ?_
  rotate_left
  · intro w hSw
    try dsimp only at hSw
    go_simp
    all_goals with_reducible rfl
  try simp only [List.getElem_toArray, List.getElem_cons_zero, List.getElem_cons_succ, Act.put, List.setIfInBounds_toArray, List.set_cons_zero, List.set_cons_succ]
  refine wpAnyH_take (i := 5) (oi := _) (v := ?_) rfl (by kernel_rfl) (by kernel_rfl) (by kernel_rfl) (fun _ _ _ h => h) (Or.inl ⟨by rfl, ?_⟩) hHeld ?_
  rotate_left
  · intro w hSw
    try dsimp only at hSw
    go_simp
    all_goals with_reducible rfl
  try simp only [List.getElem_toArray, List.getElem_cons_zero, List.getElem_cons_succ, Act.put, List.setIfInBounds_toArray, List.set_cons_zero, List.set_cons_succ]
  refine wpAnyH_take (i := 6) (oi := _) (v := ?_) rfl (by kernel_rfl) (by kernel_rfl) (by kernel_rfl) (fun _ _ _ h => h) (Or.inl ⟨by rfl, ?_⟩) hHeld ?_
  rotate_left
  · intro w hSw
    try dsimp only at hSw
    go_simp
    all_goals with_reducible rfl
  try simp only [List.getElem_toArray, List.getElem_cons_zero, List.getElem_cons_succ, Act.put, List.setIfInBounds_toArray, List.set_cons_zero, List.set_cons_succ]
  refine wpAnyH_take (i := 7) (oi := _) (v := ?_) rfl (by kernel_rfl) (by kernel_rfl) (by kernel_rfl) (fun _ _ _ h => h) (Or.inl ⟨by rfl, ?_⟩) hHeld ?_
  rotate_left
  · intro w hSw
    try dsimp only at hSw
    go_simp
    all_goals with_reducible rfl
  try simp only [List.getElem_toArray, List.getElem_cons_zero, List.getElem_cons_succ, Act.put, List.setIfInBounds_toArray, List.set_cons_zero, List.set_cons_succ]
  refine wpAnyH_take (i := 8) (oi := _) (v := ?_) rfl (by kernel_rfl) (by kernel_rfl) (by kernel_rfl) (fun _ _ _ h => h) (Or.inl ⟨by rfl, ?_⟩) hHeld ?_
  rotate_left
  · intro w hSw
    try dsimp only at hSw
    go_simp
    all_goals with_reducible rfl
  try simp only [List.getElem_toArray, List.getElem_cons_zero, List.getElem_cons_succ, Act.put, List.setIfInBounds_toArray, List.set_cons_zero, List.set_cons_succ]
  refine wpAnyH_take (i := 9) (oi := _) (v := ?_) rfl (by kernel_rfl) (by kernel_rfl) (by kernel_rfl) (fun _ _ _ h => h) (Or.inl ⟨by rfl, ?_⟩) hHeld ?_
  rotate_left
  · intro w hSw
    try dsimp only at hSw
    go_simp
    all_goals with_reducible rfl
  try simp only [List.getElem_toArray, List.getElem_cons_zero, List.getElem_cons_succ, Act.put, List.setIfInBounds_toArray, List.set_cons_zero, List.set_cons_succ]
  refine wpAnyH_take (i := 10) (oi := _) (v := ?_) rfl (by kernel_rfl) (by kernel_rfl) (by kernel_rfl) (fun _ _ _ h => h) (Or.inl ⟨by rfl, ?_⟩) hHeld ?_
  rotate_left
  · intro w hSw
    try dsimp only at hSw
    go_simp
    all_goals with_reducible rfl
  try simp only [List.getElem_toArray, List.getElem_cons_zero, List.getElem_cons_succ, Act.put, List.setIfInBounds_toArray, List.set_cons_zero, List.set_cons_succ]
  refine wpAnyH_take (i := 11) (oi := _) (v := ?_) rfl (by kernel_rfl) (by kernel_rfl) (by kernel_rfl) (fun _ _ _ h => h) (Or.inl ⟨by rfl, ?_⟩) hHeld ?_
  rotate_left
  · intro w hSw
    try dsimp only at hSw
    go_simp
    all_goals with_reducible rfl
  try simp only [List.getElem_toArray, List.getElem_cons_zero, List.getElem_cons_succ, Act.put, List.setIfInBounds_toArray, List.set_cons_zero, List.set_cons_succ]
  refine wpAnyH_take (i := 12) (oi := _) (v := ?_) rfl (by kernel_rfl) (by kernel_rfl) (by kernel_rfl) (fun _ _ _ h => h) (Or.inl ⟨by rfl, ?_⟩) hHeld ?_
  rotate_left
  · intro w hSw
    try dsimp only at hSw
    go_simp
    all_goals with_reducible rfl
  try simp only [List.getElem_toArray, List.getElem_cons_zero, List.getElem_cons_succ, Act.put, List.setIfInBounds_toArray, List.set_cons_zero, List.set_cons_succ]
  refine wpAnyH_take (i := 13) (oi := _) (v := ?_) rfl (by kernel_rfl) (by kernel_rfl) (by kernel_rfl) (fun _ _ _ h => h) (Or.inl ⟨by rfl, ?_⟩) hHeld ?_
  rotate_left
  · intro w hSw
    try dsimp only at hSw
    go_simp
    all_goals with_reducible rfl
  try simp only [List.getElem_toArray, List.getElem_cons_zero, List.getElem_cons_succ, Act.put, List.setIfInBounds_toArray, List.set_cons_zero, List.set_cons_succ]
  refine wpAnyH_take (i := 14) (oi := _) (v := ?_) rfl (by kernel_rfl) (by kernel_rfl) (by kernel_rfl) (fun _ _ _ h => h) (Or.inl ⟨by rfl, ?_⟩) hHeld ?_
  rotate_left
  · intro w hSw
    try dsimp only at hSw
    go_simp
    all_goals with_reducible rfl
  try simp only [List.getElem_toArray, List.getElem_cons_zero, List.getElem_cons_succ, Act.put, List.setIfInBounds_toArray, List.set_cons_zero, List.set_cons_succ]
  refine wpAnyH_take (i := 15) (oi := _) (v := ?_) rfl (by kernel_rfl) (by kernel_rfl) (by kernel_rfl) (fun _ _ _ h => h) (Or.inl ⟨by rfl, ?_⟩) hHeld ?_
  rotate_left
  · intro w hSw
    try dsimp only at hSw
    go_simp
    all_goals with_reducible rfl
  try simp only [List.getElem_toArray, List.getElem_cons_zero, List.getElem_cons_succ, Act.put, List.setIfInBounds_toArray, List.set_cons_zero, List.set_cons_succ]
  refine wpAnyH_take (i := 16) (oi := _) (v := ?_) rfl (by kernel_rfl) (by kernel_rfl) (by kernel_rfl) (fun _ _ _ h => h) (Or.inl ⟨by rfl, ?_⟩) hHeld ?_
  rotate_left
  · intro w hSw
    try dsimp only at hSw
    go_simp
    all_goals with_reducible rfl
  try simp only [List.getElem_toArray, List.getElem_cons_zero, List.getElem_cons_succ, Act.put, List.setIfInBounds_toArray, List.set_cons_zero, List.set_cons_succ]
  refine wpAnyH_take (i := 17) (oi := _) (v := ?_) rfl (by kernel_rfl) (by kernel_rfl) (by kernel_rfl) (fun _ _ _ h => h) (Or.inl ⟨by rfl, ?_⟩) hHeld ?_
  rotate_left
  · intro w hSw
    try dsimp only at hSw
    go_simp
    all_goals with_reducible rfl
  try simp only [List.getElem_toArray, List.getElem_cons_zero, List.getElem_cons_succ, Act.put, List.setIfInBounds_toArray, List.set_cons_zero, List.set_cons_succ]
  refine wpAnyH_take (i := 18) (oi := _) (v := ?_) rfl (by kernel_rfl) (by kernel_rfl) (by kernel_rfl) (fun _ _ _ h => h) (Or.inl ⟨by rfl, ?_⟩) hHeld ?_
  rotate_left
  · intro w hSw
    try dsimp only at hSw
    go_simp
    all_goals with_reducible rfl
  try simp only [List.getElem_toArray, List.getElem_cons_zero, List.getElem_cons_succ, Act.put, List.setIfInBounds_toArray, List.set_cons_zero, List.set_cons_succ]
  refine wpAnyH_take (i := 19) (oi := _) (v := ?_) rfl (by kernel_rfl) (by kernel_rfl) (by kernel_rfl) (fun _ _ _ h => h) (Or.inl ⟨by rfl, ?_⟩) hHeld ?_
  rotate_left
  · intro w hSw
    try dsimp only at hSw
    go_simp
    all_goals with_reducible rfl
  try simp only [List.getElem_toArray, List.getElem_cons_zero, List.getElem_cons_succ, Act.put, List.setIfInBounds_toArray, List.set_cons_zero, List.set_cons_succ]
  refine wpAnyH_ready (rs := [4, 20]) (by kernel_rfl) (by simp) ?_
  refine AllReadyH.cons (o := _) rfl (fun K hK => ?_) (AllReadyH.cons (o := _) rfl (fun K hK => ?_) AllReadyH.nil)
  · go_simp
    refine hK.out _ _ HSA.out (fun hHeld => ?_)
    clear hK K
    try simp only [List.getElem_toArray, List.getElem_cons_zero, List.getElem_cons_succ, Act.put, List.setIfInBounds_toArray, List.set_cons_zero, List.set_cons_succ]
    refine wpAnyH_ready (rs := [20]) (by kernel_rfl) (by simp) ?_
    refine AllReadyH.cons (o := _) rfl (fun K hK => ?_) AllReadyH.nil
    go_simp
    refine hK.out _ _ HSB.out (fun hHeld => ?_)
    clear hK K
    try simp only [List.getElem_toArray, List.getElem_cons_zero, List.getElem_cons_succ, Act.put, List.setIfInBounds_toArray, List.set_cons_zero, List.set_cons_succ]
    refine wpAnyH_ready (rs := [21]) (by kernel_rfl) (by simp) ?_
    refine AllReadyH.cons (o := _) rfl (fun K hK => ?_) AllReadyH.nil
    go_simp
    go_at_call 66
    with_reducible refine HIN2.out.mono ?_
    rintro E W2 ⟨v, rfl, hn2, hb2, hs2, hk2⟩
    obtain ⟨A2, c2, rfl⟩ := Kd.N_slice hn2
    have HG2 := Lib.hid ((hk2 d (blk_lt HKD.out) HND.out).trans HKD.out)
    have HG3 := Lib.hid ((hk2 _ (blk_lt HKB.out) HBX.out).trans HKB.out)
    have HK3 := Lib.hid ((hk2 _ (blk_lt HK2.out) HN1.out).trans HK2.out)
    have HX := Lib.hid (And.intro hn2 (And.intro hb2 (HT5.out W2 hs2 hk2)))
    clear hn2 hb2 hs2 hk2
    obtain ⟨y0, _, y2, y3, _, _, _, _, y8, _, _⟩ := ten_cells HG2.out
    have y0f := blk_frozen HG2.out 0
    have yb : W2.cell? ⟨w.heap.size, 0, none⟩ = some (.pointer (some ⟨d, 0, none⟩)) := (blk_cell HG3.out 0).trans rfl
    have hsS := And.intro yb (And.intro y2 (And.intro y3 y8))
    refine hK.out _ _ hsS (fun hHeld => ?_)
    clear hK K
    try simp only [List.getElem_toArray, List.getElem_cons_zero, List.getElem_cons_succ, Act.put, List.setIfInBounds_toArray, List.set_cons_zero, List.set_cons_succ]
    refine wpAnyH_take (i := 22) (oi := _) (v := ?_) rfl (by kernel_rfl) (by kernel_rfl) (by kernel_rfl) (fun _ _ _ h => h) (Or.inl ⟨by rfl, ?_⟩) hHeld ?_
    rotate_left
    · intro w hSw
      try dsimp only at hSw
      go_simp
      all_goals with_reducible rfl
    try simp only [List.getElem_toArray, List.getElem_cons_zero, List.getElem_cons_succ, Act.put, List.setIfInBounds_toArray, List.set_cons_zero, List.set_cons_succ]
    refine wpAnyH_take (i := 23) (oi := _) (v := ?_) rfl (by kernel_rfl) (by kernel_rfl) (by kernel_rfl) (fun _ _ _ h => h) (Or.inl ⟨by rfl, ?_⟩) hHeld ?_
    rotate_left
    · intro w hSw
      try dsimp only at hSw
      go_simp
      all_goals with_reducible rfl
    try simp only [List.getElem_toArray, List.getElem_cons_zero, List.getElem_cons_succ, Act.put, List.setIfInBounds_toArray, List.set_cons_zero, List.set_cons_succ]
    refine wpAnyH_ready (rs := [24]) (by kernel_rfl) (by simp) ?_
    refine AllReadyH.cons (o := _) rfl (fun K hK => ?_) AllReadyH.nil
    go_simp
    refine hK.out _ _ (HSC.out _ _ (by assumption)) (fun hHeld => ?_)
    clear hK K
    try simp only [List.getElem_toArray, List.getElem_cons_zero, List.getElem_cons_succ, Act.put, List.setIfInBounds_toArray, List.set_cons_zero, List.set_cons_succ]
    refine wpAnyH_done (by kernel_rfl) ?_ _
    clear hHeld
    have HK4 := Lib.hid (blk_far HK3.out (p := ⟨d, 0, none⟩) (by have := HDL.out; intro e; have e2 : w.heap.size + 1 = d := e; omega) (.slice A2 l2.length c2))
    have HD4 := Lib.hid (show DeskG base w0 d o p false l2 A2 c2 (fun j => ok j ∧ j ≠ w.heap.size + 1) (W2.setCell ⟨d, 0, none⟩ (.slice A2 l2.length c2)) from ⟨HD.out.1, HX.out.2.1.setCell (p := ⟨d, 0, none⟩) HD.out.1 _, blk_put HG2.out 0 _ rfl, Kd.N_far (p := ⟨d, 0, none⟩) HX.out.1 (fun k hk => hk.1.2) _⟩)
    have HT4 := Lib.hid (HX.out.2.2.setD (o := 0) HG2.out (.slice A2 l2.length c2))
    generalize W2.setCell ⟨d, 0, none⟩ (.slice A2 l2.length c2) = W3 at *
    clear y0 y2 y3 y8 y0f yb hsS
    obtain ⟨z0, z1, z2, z3, _, zl⟩ := four_cells HK4.out
    have z0f := blk_frozen HK4.out 0
    have z1f := blk_frozen HK4.out 1
    have z2f := blk_frozen HK4.out 2
    have z3f := blk_frozen HK4.out 3
    clear k0 k1 k2 k3 k4 k5 k6 k7 k8 k9 kl q0 q1 q2 q3 ql p0
    go_wp2
    exact ret_P1 Try.results45 rfl rfl (put4_at HK4.out) (gotM_mk HQ.out (HD4.out.put4 (fun j hj => hj.2) (by have := HDL.out; omega) (by omega)) (fun _ h => h.1) (HT4.out.put4 (by omega)))
  · go_simp
    refine hK.out _ _ HSB.out (fun hHeld => ?_)
    clear hK K
    try simp only [List.getElem_toArray, List.getElem_cons_zero, List.getElem_cons_succ, Act.put, List.setIfInBounds_toArray, List.set_cons_zero, List.set_cons_succ]
    refine wpAnyH_ready (rs := [4]) (by kernel_rfl) (by simp) ?_
    refine AllReadyH.cons (o := _) rfl (fun K hK => ?_) AllReadyH.nil
    go_simp
    refine hK.out _ _ HSB.out (fun hHeld => ?_)
    clear hK K
    try simp only [List.getElem_toArray, List.getElem_cons_zero, List.getElem_cons_succ, Act.put, List.setIfInBounds_toArray, List.set_cons_zero, List.set_cons_succ]
    refine wpAnyH_ready (rs := [21]) (by kernel_rfl) (by simp) ?_
    refine AllReadyH.cons (o := _) rfl (fun K hK => ?_) AllReadyH.nil
    go_simp
    go_at_call 66
    with_reducible refine HIN2.out.mono ?_
    rintro E W2 ⟨v, rfl, hn2, hb2, hs2, hk2⟩
    obtain ⟨A2, c2, rfl⟩ := Kd.N_slice hn2
    have HG2 := Lib.hid ((hk2 d (blk_lt HKD.out) HND.out).trans HKD.out)
    have HG3 := Lib.hid ((hk2 _ (blk_lt HKB.out) HBX.out).trans HKB.out)
    have HK3 := Lib.hid ((hk2 _ (blk_lt HK2.out) HN1.out).trans HK2.out)
    have HX := Lib.hid (And.intro hn2 (And.intro hb2 (HT5.out W2 hs2 hk2)))
    clear hn2 hb2 hs2 hk2
    obtain ⟨y0, _, y2, y3, _, _, _, _, y8, _, _⟩ := ten_cells HG2.out
    have y0f := blk_frozen HG2.out 0
    have yb : W2.cell? ⟨w.heap.size, 0, none⟩ = some (.pointer (some ⟨d, 0, none⟩)) := (blk_cell HG3.out 0).trans rfl
    have hsS := And.intro yb (And.intro y2 (And.intro y3 y8))
    refine hK.out _ _ hsS (fun hHeld => ?_)
    clear hK K
    try simp only [List.getElem_toArray, List.getElem_cons_zero, List.getElem_cons_succ, Act.put, List.setIfInBounds_toArray, List.set_cons_zero, List.set_cons_succ]
    refine wpAnyH_take (i := 22) (oi := _) (v := ?_) rfl (by kernel_rfl) (by kernel_rfl) (by kernel_rfl) (fun _ _ _ h => h) (Or.inl ⟨by rfl, ?_⟩) hHeld ?_
    rotate_left
    · intro w hSw
      try dsimp only at hSw
      go_simp
      all_goals with_reducible rfl
    try simp only [List.getElem_toArray, List.getElem_cons_zero, List.getElem_cons_succ, Act.put, List.setIfInBounds_toArray, List.set_cons_zero, List.set_cons_succ]
    refine wpAnyH_take (i := 23) (oi := _) (v := ?_) rfl (by kernel_rfl) (by kernel_rfl) (by kernel_rfl) (fun _ _ _ h => h) (Or.inl ⟨by rfl, ?_⟩) hHeld ?_
    rotate_left
    · intro w hSw
      try dsimp only at hSw
      go_simp
      all_goals with_reducible rfl
    try simp only [List.getElem_toArray, List.getElem_cons_zero, List.getElem_cons_succ, Act.put, List.setIfInBounds_toArray, List.set_cons_zero, List.set_cons_succ]
    refine wpAnyH_ready (rs := [24]) (by kernel_rfl) (by simp) ?_
    refine AllReadyH.cons (o := _) rfl (fun K hK => ?_) AllReadyH.nil
    go_simp
    refine hK.out _ _ (HSC.out _ _ (by assumption)) (fun hHeld => ?_)
    clear hK K
    try simp only [List.getElem_toArray, List.getElem_cons_zero, List.getElem_cons_succ, Act.put, List.setIfInBounds_toArray, List.set_cons_zero, List.set_cons_succ]
    refine wpAnyH_done (by kernel_rfl) ?_ _
    clear hHeld
    have HK4 := Lib.hid (blk_far HK3.out (p := ⟨d, 0, none⟩) (by have := HDL.out; intro e; have e2 : w.heap.size + 1 = d := e; omega) (.slice A2 l2.length c2))
    have HD4 := Lib.hid (show DeskG base w0 d o p false l2 A2 c2 (fun j => ok j ∧ j ≠ w.heap.size + 1) (W2.setCell ⟨d, 0, none⟩ (.slice A2 l2.length c2)) from ⟨HD.out.1, HX.out.2.1.setCell (p := ⟨d, 0, none⟩) HD.out.1 _, blk_put HG2.out 0 _ rfl, Kd.N_far (p := ⟨d, 0, none⟩) HX.out.1 (fun k hk => hk.1.2) _⟩)
    have HT4 := Lib.hid (HX.out.2.2.setD (o := 0) HG2.out (.slice A2 l2.length c2))
    generalize W2.setCell ⟨d, 0, none⟩ (.slice A2 l2.length c2) = W3 at *
    clear y0 y2 y3 y8 y0f yb hsS
    obtain ⟨z0, z1, z2, z3, _, zl⟩ := four_cells HK4.out
    have z0f := blk_frozen HK4.out 0
    have z1f := blk_frozen HK4.out 1
    have z2f := blk_frozen HK4.out 2
    have z3f := blk_frozen HK4.out 3
    clear k0 k1 k2 k3 k4 k5 k6 k7 k8 k9 kl q0 q1 q2 q3 ql p0
    go_wp2
    exact ret_P1 Try.results45 rfl rfl (put4_at HK4.out) (gotM_mk HQ.out (HD4.out.put4 (fun j hj => hj.2) (by have := HDL.out; omega) (by omega)) (fun _ h => h.1) (HT4.out.put4 (by omega)))

end Go.Proofs.Ytadhfedbgeenlaa.H

/- The desk's scan. -/
namespace Go.Proofs.Ytadhfedbgeenlaa.H
open Go.RowKit Go.Proofs.YtadhfedbgeenlaaW.PrintWords Go.Proofs.YtadhfedbgeenlaaW.PrintLast Go.Proofs.YtadhfedbgeenlaaW.PrintMore
set_option linter.unusedVariables false
set_option linter.unusedSimpArgs false
theorem scanP_nil (xs : List S54) (hi : ByteArray) (n : Nat) (h : xs = [] ∨ n = 0) : scanP xs hi n = [] := by
  rcases h with rfl | rfl
  · cases n <;> rfl
  · cases xs <;> rfl
theorem scanP_step {ls : List S54} {hi : ByteArray} {k n : Nat} (h : k < ls.length) (hn : n < 5) : scanP (ls.drop k) hi (5 - n) = if (!hi.toList.isEmpty && !kLt (rd_T54 ls k).f0 hi) = true then [] else (rd_T54 ls k).f0 :: scanP (ls.drop (k + 1)) hi (5 - (n + 1)) := by
  rw [drop_getD ls z54 h, show 5 - n = (5 - (n + 1)) + 1 by omega, show ls.getD k z54 = rd_T54 ls k from rfl]
  rfl

set_option maxHeartbeats 4000000 in
set_option maxRecDepth 100000 in
theorem scanE_calls (d : Nat) (o : S36) (p : Nat) (here : Bool) (l : List S54) (A : Option Addr) (c : Nat) (w : World) (hd : w.heap[d]? = some (.cells #[.slice A l.length c, .int .i64 o.f0, .string o.f1, .string o.f2, .int .i64 o.f3, .string o.f4, .int .i64 o.f5, .string o.f6, .int .i64 p, .bool here] 75 (0, 0))) (hr : Kd.C k54 w A l.length l) (hc : l.length ≤ c) (hp : p ≤ l.length) (hl : l.length ≤ 1000) (hA : A = none ∨ c = p) :
    Calls Try.prog 49 #[.pointer (some ⟨d, 0, none⟩)] w fun e w' => ∃ v, e = .returned (.agg #[.int .i64 0, .int .i64 0, .string ⟨#[]⟩, v]) ∧ Kd.R Kd.string 9 w' w.heap.size (fun _ => True) (v) (scanP (l.drop p) o.f4 5) ∧ Below w.heap.size w w' := by
  obtain ⟨r, hr0⟩ : ∃ r, r = scanP (l.drop p) o.f4 5 := ⟨_, rfl⟩
  rw [← hr0]
  have HR0 := Lib.hid hr0
  generalize hW0 : w.alloc (.cells #[.int .i64 0, .int .i64 0, .string ⟨#[]⟩, .slice none 0 0] 34) = W0
  have HB0 := Lib.hid (show Below w.heap.size w W0 by rw [← hW0]; exact below_alloc (Below.refl _ _) _)
  have HK1 := Lib.hid (show W0.heap[w.heap.size]? = some (.cells #[.int .i64 0, .int .i64 0, .string ⟨#[]⟩, .slice none 0 0] 34 (0, 0)) by rw [← hW0]; exact new_at rfl _)
  have HW0 := Lib.hid hW0; clear hW0
  obtain ⟨k0, k1, k2, k3, k4, k5, k6, k7, k8, k9, kl⟩ := ten_cells (kept_on HB0.out hd)
  have HKD := Lib.hid hd
  have b1 : (0 : Int) ≤ p := by omega
  have b2 : (p : Int) ≤ l.length := by omega
  have hpe : p = l.length := by
    rcases hA with rfl | rfl
    · have := hr.2.2
      rcases Nat.eq_zero_or_pos l.length with h | h
      · omega
      · obtain ⟨_, h, _⟩ := this h
        cases h
    · omega
  have HQ := Lib.hid (show r = [] by rw [hr0, hpe, List.drop_length]; rfl)
  clear hr0 hd hr
  subst hpe
  rcases hA with rfl | rfl
  all_goals
    go_enter Try.func49, Try.ntmps49
    go_upto_region 1 with (fail)
    rw [HW0.out]
    clear HW0
    go_big_quiet (fail)
    go_wp2
    have HB5 := Lib.hid (pw_below_drewN HB0.out nq)
    have HK5 := Lib.hid (show (W0.drewN nq).heap[w.heap.size]? = some (.cells #[.int .i64 0, .int .i64 0, .string ⟨#[]⟩, .slice none 0 0] 34 (0, 0)) from HK1.out)
    clear k0 k1 k2 k3 k4 k5 k6 k7 k8 k9 kl
    generalize W0.drewN nq = W5 at *
    go_loopw [15] (fun v15 W => v15 = .int .i64 0 ∧ Aside0 (Below w.heap.size w W ∧ W.heap[w.heap.size]? = some (.cells #[.int .i64 0, .int .i64 0, .string ⟨#[]⟩, .slice none 0 0] 34 (0, 0)))) (fun _ _ => 0)
    case atStart => exact ⟨rfl, ⟨HB5.out, HK5.out⟩⟩
    case round =>
      obtain ⟨rfl, HI⟩ := hrel
      obtain ⟨q0, q1, q2, q3, _, ql⟩ := four_cells HI.out.2
      have q0f := blk_frozen HI.out.2 0
      have q1f := blk_frozen HI.out.2 1
      have q2f := blk_frozen HI.out.2 2
      have q3f := blk_frozen HI.out.2 3
      go_wp2
      exact ret_P1 Try.results49 rfl rfl (put4_at HI.out.2) ⟨_, rfl, by rw [HQ.out]; exact Kd.R_set (Kd.R_set (Kd.R_set (Kd.R_set (Kd.R_nil _ _ _ _ _) HI.out.2 (by decide) 0 _) (blk_put HI.out.2 0 _ rfl) (by decide) 1 _) (blk_put (blk_put HI.out.2 0 _ rfl) 1 _ rfl) (by decide) 2 _) (blk_put (blk_put (blk_put HI.out.2 0 _ rfl) 1 _ rfl) 2 _ rfl) (by decide) 3 _, put4_below HI.out.1 (Nat.le_refl _)⟩

set_option maxHeartbeats 4000000 in
set_option maxRecDepth 100000 in
theorem scanM_calls (d : Nat) (o : S36) (p : Nat) (here : Bool) (l : List S54) (A : Option Addr) (c : Nat) (w : World) (hd : w.heap[d]? = some (.cells #[.slice A l.length c, .int .i64 o.f0, .string o.f1, .string o.f2, .int .i64 o.f3, .string o.f4, .int .i64 o.f5, .string o.f6, .int .i64 p, .bool here] 75 (0, 0))) (hr : Kd.C k54 w A l.length l) (hc : l.length ≤ c) (hp : p ≤ l.length) (hl : l.length ≤ 1000) (g : Nat) (hA : A = some ⟨g, 0, none⟩) (hcp : ¬ c = p) :
    Calls Try.prog 49 #[.pointer (some ⟨d, 0, none⟩)] w fun e w' => ∃ v, e = .returned (.agg #[.int .i64 0, .int .i64 0, .string ⟨#[]⟩, v]) ∧ Kd.R Kd.string 9 w' w.heap.size (fun _ => True) (v) (scanP (l.drop p) o.f4 5) ∧ Below w.heap.size w w' := by
  subst hA
  obtain ⟨r, hr0⟩ : ∃ r, r = scanP (l.drop p) o.f4 5 := ⟨_, rfl⟩
  rw [← hr0]
  have HR0 := Lib.hid hr0
  generalize hW0 : w.alloc (.cells #[.int .i64 0, .int .i64 0, .string ⟨#[]⟩, .slice none 0 0] 34) = W0
  have HB0 := Lib.hid (show Below w.heap.size w W0 by rw [← hW0]; exact below_alloc (Below.refl _ _) _)
  have HK1 := Lib.hid (show W0.heap[w.heap.size]? = some (.cells #[.int .i64 0, .int .i64 0, .string ⟨#[]⟩, .slice none 0 0] 34 (0, 0)) by rw [← hW0]; exact new_at rfl _)
  have HW0 := Lib.hid hW0; clear hW0
  obtain ⟨k0, k1, k2, k3, k4, k5, k6, k7, k8, k9, kl⟩ := ten_cells (kept_on HB0.out hd)
  have HKD := Lib.hid hd
  have b1 : (0 : Int) ≤ p := by omega
  have b2 : (p : Int) ≤ l.length := by omega
  obtain ⟨ls, hls⟩ : ∃ ls, ls = l.drop p := ⟨_, rfl⟩
  have HRW := Lib.hid (show Kd.C k54 w (some ⟨g, p * 6, none⟩) ls.length ls from by
    have h := Kd.C_drop hr hp hc
    rw [if_neg hcp] at h
    rw [hls, ← (show ((⟨g, 0, none⟩ : Addr).add (p * 6)) = ⟨g, p * 6, none⟩ by rw [Addr.add_lit, Nat.zero_add])]
    exact h)
  obtain ⟨n, hn⟩ : ∃ n, n = l.length - p := ⟨_, rfl⟩
  have HN := Lib.hid (show ls.length = n by rw [hls, hn, List.length_drop])
  have HR5 := Lib.hid (show r = [] ++ scanP (ls.drop 0) o.f4 (5 - 0) by rw [hr0, ← hls]; rfl)
  have hnm : n ≤ 1000 := by omega
  have HNN := Lib.hid hn
  clear hr0 hd hr hls hn
  go_enter Try.func49, Try.ntmps49
  go_upto_region 1 with (fail)
  rw [HW0.out]
  clear HW0
  go_big_quiet (fail)
  go_wp2
  have HB5 := Lib.hid (pw_below_drewN HB0.out nq)
  have HK5 := Lib.hid (show (W0.drewN nq).heap[w.heap.size]? = some (.cells #[.int .i64 0, .int .i64 0, .string ⟨#[]⟩, .slice none 0 0] 34 (0, 0)) from HK1.out)
  clear k0 k1 k2 k3 k4 k5 k6 k7 k8 k9 kl
  generalize W0.drewN nq = W5 at *
  rw [← HNN.out]
  go_loopw [15] (fun v15 W => ∃ (k : Nat) (A7 : Option Addr) (c7 : Nat) (acc : List ByteArray), k ≤ n ∧ v15 = .int .i64 k ∧ Aside0 (Below w.heap.size w W ∧ W.heap[w.heap.size]? = some (.cells #[.int .i64 0, .int .i64 0, .string ⟨#[]⟩, .slice A7 acc.length c7] 34 (0, 0)) ∧ Kd.R Kd.string 9 W w.heap.size (fun _ => True) (.slice A7 acc.length c7) acc ∧ acc.length ≤ 5 ∧ r = acc ++ scanP (ls.drop k) o.f4 (5 - acc.length))) (fun v15 _ => n - (intOf v15).toNat)
  case atStart => exact ⟨0, none, 0, [], Nat.zero_le _, rfl, ⟨HB5.out, HK5.out, Kd.R_nil _ _ _ _ _, by decide, HR5.out⟩⟩
  case round =>
    obtain ⟨k, A7, c7, acc, hk, rfl, HI⟩ := hrel
    clear HB5 HK5 HR5
    have HMA0 := Lib.hid (show ∃ m, m = acc.length from ⟨_, rfl⟩)
    obtain ⟨m, hma⟩ : ∃ m, m = acc.length := ⟨_, rfl⟩
    rw [← hma] at HI
    have HMA := Lib.hid hma
    have HB := Lib.hid HI.out.1
    have HG := Lib.hid HI.out.2.1
    have HR := Lib.hid HI.out.2.2.1
    have hm5 := HI.out.2.2.2.1
    have HE := Lib.hid HI.out.2.2.2.2
    clear HI hma HMA0
    by_cases hlt : k < n
    rotate_left
    · obtain rfl : k = n := by omega
      have HQ := Lib.hid (show r = acc by rw [HE.out, ← HN.out, List.drop_length, scanP_nil [] _ _ (.inl rfl), List.append_nil])
      obtain ⟨q0, q1, q2, q3, _, ql⟩ := four_cells HG.out
      have q0f := blk_frozen HG.out 0
      have q1f := blk_frozen HG.out 1
      have q2f := blk_frozen HG.out 2
      have q3f := blk_frozen HG.out 3
      clear hlt
      go_wp2
      exact ret_P1 Try.results49 rfl rfl (put4_at HG.out) ⟨_, rfl, by rw [HQ.out]; exact Kd.R_set (Kd.R_set (Kd.R_set (Kd.R_set HR.out HG.out (by decide) 0 _) (blk_put HG.out 0 _ rfl) (by decide) 1 _) (blk_put (blk_put HG.out 0 _ rfl) 1 _ rfl) (by decide) 2 _) (blk_put (blk_put (blk_put HG.out 0 _ rfl) 1 _ rfl) 2 _ rfl) (by decide) 3 _, put4_below HB.out (Nat.le_refl _)⟩
    have bk : (k : Int) < n := by omega
    have bk0 : (0 : Int) ≤ k := by omega
    obtain ⟨ad, A5, c5, hA, h0, h1, h2, h3, h4, h5, hl5, hf5⟩ := at_T54 HRW.out k (by omega) (by have := HN.out; omega)
    injection hA with hA
    subst hA
    rw [Int.toNat_natCast] at h0 h1 h2 h3 h4 h5
    simp only [Addr.add_lit] at h0 h1 h2 h3 h4 h5
    replace h0 := kept_cell HB.out h0
    replace h1 := kept_cell HB.out h1
    replace h2 := kept_cell HB.out h2
    replace h3 := kept_cell HB.out h3
    replace h4 := kept_cell HB.out h4
    replace h5 := kept_cell HB.out h5
    have HST := Lib.hid (fun (hm : m < 5) => HE.out.trans (by rw [scanP_step (by rw [HN.out]; exact hlt) hm] : _ = acc ++ (if (!o.f4.toList.isEmpty && !kLt (rd_T54 ls k).f0 o.f4) = true then [] else (rd_T54 ls k).f0 :: scanP (ls.drop (k + 1)) o.f4 (5 - (m + 1)))))
    have HS5 := Lib.hid (fun (hm : m = 5) => HE.out.trans (by rw [hm, scanP_nil _ _ _ (.inr rfl), List.append_nil] : _ = acc))
    generalize rd_T54 ls k = x at *
    clear hl5 hf5 HE
    go_upto_region 3 with (fail)
    go_cut [4] (fun v4 W => ∃ gx : Nat, v4 = .pointer (some ⟨gx, 0, none⟩) ∧ Aside0 (w.heap.size < gx ∧ W.heap[gx]? = some (.cells #[.string x.f0, .string x.f1, .int .i64 x.f2, .int .i64 x.f3, .string x.f4, .slice A5 x.f5.length c5] 54 (0, 0)) ∧ Below w.heap.size w W ∧ W.heap[w.heap.size]? = some (.cells #[.int .i64 0, .int .i64 0, .string ⟨#[]⟩, .slice A7 m c7] 34 (0, 0)) ∧ Kd.R Kd.string 9 W w.heap.size (fun _ => True) (.slice A7 m c7) acc))
    case first =>
      go_wp2
      go_meet
      case rel => exact ⟨_, rfl, ⟨blk_lt HG.out, new_at rfl _, below_alloc HB.out _, alloc_on HG.out _, Kd.R_alloc HR.out _⟩⟩
    obtain ⟨gx, rfl, HA⟩ := hcut
    clear h0 h1 h2 h3 h4 h5 HB HG HR
    have HGX := Lib.hid HA.out.1
    obtain ⟨x0, x1, x2, x3, x4, x5, xf, xl⟩ := six_cells HA.out.2.1
    obtain ⟨q0, q1, q2, q3, _, ql⟩ := four_cells HA.out.2.2.2.1
    have HKD2 := Lib.hid (HA.out.2.2.1.block d (blk_lt HKD.out) |>.trans HKD.out)
    obtain ⟨k0, k1, k2, k3, k4, k5, k6, k7, k8, k9, kl⟩ := ten_cells HKD2.out
    have HQ1 := Lib.hid (fun (nq : Nat) => (show Below w.heap.size w (wc.drewN nq) ∧ (wc.drewN nq).heap[w.heap.size]? = some (.cells #[.int .i64 0, .int .i64 0, .string ⟨#[]⟩, .slice A7 m c7] 34 (0, 0)) ∧ Kd.R Kd.string 9 (wc.drewN nq) w.heap.size (fun _ => True) (.slice A7 m c7) acc ∧ (wc.drewN nq).heap[gx]? = some (.cells #[.string x.f0, .string x.f1, .int .i64 x.f2, .int .i64 x.f3, .string x.f4, .slice A5 x.f5.length c5] 54 (0, 0)) from ⟨pw_below_drewN HA.out.2.2.1 nq, HA.out.2.2.2.1, Kd.R_move HA.out.2.2.2.2 (fun _ _ => rfl), HA.out.2.1⟩))
    by_cases hm : m = 5
    · have qm : ((m : Int) == 5) = true := by rw [hm]; rfl
      have HQ := Lib.hid (HS5.out hm)
      clear HS5 HST hm hm5
      go_upto_region 4 with (fail)
      go_big_quiet (fail)
      replace HQ1 := Lib.hid (HQ1.out nq)
      clear x0 x1 x2 x3 x4 x5 xf xl q0 q1 q2 q3 ql k0 k1 k2 k3 k4 k5 k6 k7 k8 k9 kl HKD2 HA qm
      generalize wc.drewN nq = W6 at *
      obtain ⟨q0, q1, q2, q3, _, ql⟩ := four_cells HQ1.out.2.1
      have q0f := blk_frozen HQ1.out.2.1 0
      have q1f := blk_frozen HQ1.out.2.1 1
      have q2f := blk_frozen HQ1.out.2.1 2
      have q3f := blk_frozen HQ1.out.2.1 3
      go_wp2
      exact ret_P1 Try.results49 rfl rfl (put4_at HQ1.out.2.1) ⟨_, rfl, by rw [HQ.out]; exact Kd.R_set (Kd.R_set (Kd.R_set (Kd.R_set HQ1.out.2.2.1 HQ1.out.2.1 (by decide) 0 _) (blk_put HQ1.out.2.1 0 _ rfl) (by decide) 1 _) (blk_put (blk_put HQ1.out.2.1 0 _ rfl) 1 _ rfl) (by decide) 2 _) (blk_put (blk_put (blk_put HQ1.out.2.1 0 _ rfl) 1 _ rfl) 2 _ rfl) (by decide) 3 _, put4_below HQ1.out.1 (Nat.le_refl _)⟩
    have hm' : m < 5 := by omega
    have qm : ((m : Int) == 5) = false := beq_eq_false_iff_ne.mpr (by omega)
    have HE := Lib.hid (HST.out hm')
    clear HS5 HST hm
    cases hc2 : o.f4.toList.isEmpty
    · have e2 : ¬ o.f4.toList = [] := by
        intro e
        rw [e] at hc2
        cases hc2
      have e2' : o.f4.toList.isEmpty = false := hc2
      cases hc3 : kLt x.f0 o.f4
      · have e3 : Op.bytesLess x.f0.toList o.f4.toList = false := hc3
        have HQ := Lib.hid (HE.out.trans (by rw [hc2, hc3]; simp) : r = acc)
        clear HE hc2 hc3
        go_upto_region 4 with (fail)
        go_big_quiet (fail)
        replace HQ1 := Lib.hid (HQ1.out nq)
        clear x0 x1 x2 x3 x4 x5 xf xl q0 q1 q2 q3 ql k0 k1 k2 k3 k4 k5 k6 k7 k8 k9 kl HKD2 HA qm
        generalize wc.drewN nq = W6 at *
        obtain ⟨q0, q1, q2, q3, _, ql⟩ := four_cells HQ1.out.2.1
        have q0f := blk_frozen HQ1.out.2.1 0
        have q1f := blk_frozen HQ1.out.2.1 1
        have q2f := blk_frozen HQ1.out.2.1 2
        have q3f := blk_frozen HQ1.out.2.1 3
        go_wp2
        exact ret_P1 Try.results49 rfl rfl (put4_at HQ1.out.2.1) ⟨_, rfl, by rw [HQ.out]; exact Kd.R_set (Kd.R_set (Kd.R_set (Kd.R_set HQ1.out.2.2.1 HQ1.out.2.1 (by decide) 0 _) (blk_put HQ1.out.2.1 0 _ rfl) (by decide) 1 _) (blk_put (blk_put HQ1.out.2.1 0 _ rfl) 1 _ rfl) (by decide) 2 _) (blk_put (blk_put (blk_put HQ1.out.2.1 0 _ rfl) 1 _ rfl) 2 _ rfl) (by decide) 3 _, put4_below HQ1.out.1 (Nat.le_refl _)⟩
      · have e3 : Op.bytesLess x.f0.toList o.f4.toList = true := hc3
        have HE2 := Lib.hid (HE.out.trans (by rw [hc2, hc3]; rfl) : r = acc ++ (x.f0 :: scanP (ls.drop (k + 1)) o.f4 (5 - (m + 1))))
        clear HE hc2 hc3
        go_upto_region 4 with (fail)
        go_big_quiet (fail)
        replace HQ1 := Lib.hid (HQ1.out nq)
        clear x0 x1 x2 x3 x4 x5 xf xl q0 q1 q2 q3 ql k0 k1 k2 k3 k4 k5 k6 k7 k8 k9 kl HKD2 HA qm
        generalize wc.drewN nq = W6 at *
        obtain ⟨q0, q1, q2, q3, _, ql⟩ := four_cells HQ1.out.2.1
        have q0f := blk_frozen HQ1.out.2.1 0
        have q1f := blk_frozen HQ1.out.2.1 1
        have q2f := blk_frozen HQ1.out.2.1 2
        have q3f := blk_frozen HQ1.out.2.1 3
        obtain ⟨x0, x1, x2, x3, x4, x5, xf, xl⟩ := six_cells HQ1.out.2.2.2
        have hne := Lib.hid (Kd.R_ne HQ1.out.2.2.1 HQ1.out.2.1 (by decide))
        go_upto_region 5 with (fail)
        go_wp2_with (at_builtin; refine Kd.R_append Kd.string (w0 := w) w.heap.size rfl (.tmp 42) (.tmp 45) 32 9 (.string ⟨#[]⟩) 16 rfl Try.underlying32 info9 rfl (by decide) (by omega) (.slice A7 m c7) acc x.f0 [.string x.f0] (fun _ => True) (fun _ => False) rfl rfl rfl (fun _ h => h.elim) (fun _ _ => trivial) HQ1.out.2.2.1 HQ1.out.1 HQ1.out.1.size (by have := HMA.out; omega) ?_; intro v2 w2 ho hb hg hat; obtain ⟨A8, c8, rfl⟩ := Kd.R_slice ho; have HLK := Lib.hid (by rw [List.length_append, List.length_singleton, ← HMA.out] : (acc ++ [x.f0]).length = m + 1); rw [HLK.out] at ho ⊢; have HGw := Lib.hid ((hg.block _ (blk_lt HQ1.out.2.1) hne.out).trans HQ1.out.2.1); have HOB := Lib.hid (And.intro ho hb); obtain ⟨y0, y1, y2, y3, _, yl⟩ := four_cells HGw.out; have y3f := blk_frozen HGw.out 3; clear ho hb hg hat)
        go_roundw
        case rel => exact ⟨k + 1, A8, c8, acc ++ [x.f0], by omega, by go_num, ⟨below_set HOB.out.2 (Nat.le_refl _), by rw [HLK.out]; exact blk_put HGw.out 3 _ rfl, by rw [HLK.out]; exact Kd.R_set HOB.out.1 HGw.out (by decide) 3 _, by rw [HLK.out]; omega, by rw [HE2.out, List.append_assoc, HLK.out]; rfl⟩⟩
        case measure => simp [intOf]; omega
    · have e2 : o.f4.toList = [] := List.isEmpty_iff.1 hc2
      have e2' : o.f4.toList.isEmpty = true := hc2
      have HE2 := Lib.hid (HE.out.trans (by rw [hc2]; rfl) : r = acc ++ (x.f0 :: scanP (ls.drop (k + 1)) o.f4 (5 - (m + 1))))
      clear HE hc2
      go_upto_region 4 with (fail)
      go_big_quiet (fail)
      replace HQ1 := Lib.hid (HQ1.out nq)
      clear x0 x1 x2 x3 x4 x5 xf xl q0 q1 q2 q3 ql k0 k1 k2 k3 k4 k5 k6 k7 k8 k9 kl HKD2 HA qm
      generalize wc.drewN nq = W6 at *
      obtain ⟨q0, q1, q2, q3, _, ql⟩ := four_cells HQ1.out.2.1
      have q0f := blk_frozen HQ1.out.2.1 0
      have q1f := blk_frozen HQ1.out.2.1 1
      have q2f := blk_frozen HQ1.out.2.1 2
      have q3f := blk_frozen HQ1.out.2.1 3
      obtain ⟨x0, x1, x2, x3, x4, x5, xf, xl⟩ := six_cells HQ1.out.2.2.2
      have hne := Lib.hid (Kd.R_ne HQ1.out.2.2.1 HQ1.out.2.1 (by decide))
      go_upto_region 5 with (fail)
      go_wp2_with (at_builtin; refine Kd.R_append Kd.string (w0 := w) w.heap.size rfl (.tmp 42) (.tmp 45) 32 9 (.string ⟨#[]⟩) 16 rfl Try.underlying32 info9 rfl (by decide) (by omega) (.slice A7 m c7) acc x.f0 [.string x.f0] (fun _ => True) (fun _ => False) rfl rfl rfl (fun _ h => h.elim) (fun _ _ => trivial) HQ1.out.2.2.1 HQ1.out.1 HQ1.out.1.size (by have := HMA.out; omega) ?_; intro v2 w2 ho hb hg hat; obtain ⟨A8, c8, rfl⟩ := Kd.R_slice ho; have HLK := Lib.hid (by rw [List.length_append, List.length_singleton, ← HMA.out] : (acc ++ [x.f0]).length = m + 1); rw [HLK.out] at ho ⊢; have HGw := Lib.hid ((hg.block _ (blk_lt HQ1.out.2.1) hne.out).trans HQ1.out.2.1); have HOB := Lib.hid (And.intro ho hb); obtain ⟨y0, y1, y2, y3, _, yl⟩ := four_cells HGw.out; have y3f := blk_frozen HGw.out 3; clear ho hb hg hat)
      go_roundw
      case rel => exact ⟨k + 1, A8, c8, acc ++ [x.f0], by omega, by go_num, ⟨below_set HOB.out.2 (Nat.le_refl _), by rw [HLK.out]; exact blk_put HGw.out 3 _ rfl, by rw [HLK.out]; exact Kd.R_set HOB.out.1 HGw.out (by decide) 3 _, by rw [HLK.out]; omega, by rw [HE2.out, List.append_assoc, HLK.out]; rfl⟩⟩
      case measure => simp [intOf]; omega

end Go.Proofs.Ytadhfedbgeenlaa.H

/- A row of records whose Extra are being made one's own, one behind the other. -/
namespace Go.Proofs.Ytadhfedbgeenlaa.H
open Go.RowKit Go.Proofs.YtadhfedbgeenlaaW.PrintWords Go.Proofs.YtadhfedbgeenlaaW.PrintLast Go.Proofs.YtadhfedbgeenlaaW.PrintMore
set_option linter.unusedVariables false
set_option linter.unusedSimpArgs false

/-- The row in block g; what its first k elements lead to lies in okA, what the others, in okB. -/
def MixR (base g n cap : Nat) (okA okB : Nat → Prop) (k : Nat) (l : List S54) (W : World) : Prop :=
  ∃ cur : List Value, W.heap[g]? = some (.cells cur.toArray 54 (0, 0)) ∧ cur.length = cap * 6 ∧ n = l.length ∧ n ≤ cap ∧ cap ≤ maxLen ∧ base ≤ g ∧ okA g ∧ ∀ j x, l[j]? = some x → Kd.FK k54 W (fun q => (if j < k then okA q else okB q) ∧ q ≠ g) x (seg 6 cur j)
section
variable {base g n cap k : Nat} {ok okA okB : Nat → Prop} {l : List S54} {W W' : World}
theorem mix_start (h : Kd.N k54 54 W base ok (.slice (some ⟨g, 0, none⟩) n cap) l) (hA : okA g) (hB : ∀ q, ok q → okB q) : MixR base g n cap okA okB 0 l W := by
  obtain ⟨cur, h1, h2, h3, h4, h5, h6, h7, _, hf⟩ := N_open h
  exact ⟨cur, h1, h2, h3, h4, h5, h6, hA, fun j x hx => Kd.FK_mono (hf j x hx) (fun q hq => ⟨by rw [if_neg (Nat.not_lt_zero _)]; exact hB q hq.1, hq.2⟩)⟩
theorem mix_end (h : MixR base g n cap okA okB n l W) : Kd.N k54 54 W base okA (.slice (some ⟨g, 0, none⟩) n cap) l := by
  obtain ⟨cur, h1, h2, h3, h4, h5, h6, h7, hf⟩ := h
  refine N_close h1 h2 h3 h4 h5 h6 h7 (fun j x hx => Kd.FK_mono (hf j x hx) (fun q hq => ⟨?_, hq.2⟩))
  have hj := (List.getElem?_eq_some_iff.1 hx).1
  have h := hq.1
  rw [if_pos (by omega)] at h
  exact h
theorem mix_keep (h : MixR base g n cap okA okB k l W) (hg : g < W.heap.size) (hk : ∀ q, q < W.heap.size → W'.heap[q]? = W.heap[q]?) : MixR base g n cap okA okB k l W' := by
  obtain ⟨cur, h1, h2, h3, h4, h5, h6, h7, hf⟩ := h
  exact ⟨cur, (hk g hg).trans h1, h2, h3, h4, h5, h6, h7, fun j x hx => Kd.FK_step (hf j x hx) (fun q _ hlt => hk q hlt)⟩
theorem mix_below (h : MixR base g n cap okA okB k l W) (hb : Below W.heap.size W W') : MixR base g n cap okA okB k l W' :=
  mix_keep h (by obtain ⟨cur, h1, _⟩ := h; exact blk_lt h1) (fun q hq => hb.block q hq)
theorem seg_cells {s j : Nat} {cur : List Value} {i : Nat} (h : i < s) : (seg s cur j)[i]? = cur[j * s + i]? := by
  unfold seg
  rw [List.getElem?_take, if_pos h, List.getElem?_drop]
theorem seg_set_ne {s j k i : Nat} {cur : List Value} {u : Value} (hs : i < s) (h : j ≠ k) : seg s (cur.set (k * s + i) u) j = seg s cur j := by
  apply List.ext_getElem?
  intro q
  by_cases hq : q < s
  · rw [seg_cells hq, seg_cells hq, List.getElem?_set_ne]
    intro e
    rcases Nat.lt_or_gt_of_ne h with hl | hl
    · have := Nat.mul_le_mul_right s (show j + 1 ≤ k from hl)
      rw [Nat.succ_mul] at this
      omega
    · have := Nat.mul_le_mul_right s (show k + 1 ≤ j from hl)
      rw [Nat.succ_mul] at this
      omega
  · unfold seg
    rw [List.getElem?_take, List.getElem?_take, if_neg hq, if_neg hq]
/-- Element k: its cells, and what its Extra lead to. -/
theorem mix_at (h : MixR base g n cap okA okB k l W) (hk : k < n) : ∃ A5 c5, W.cell? ⟨g, k * 6, none⟩ = some (.string (rd_T54 l k).f0) ∧ W.cell? ⟨g, k * 6 + 1, none⟩ = some (.string (rd_T54 l k).f1) ∧ W.cell? ⟨g, k * 6 + 2, none⟩ = some (.int .i64 (rd_T54 l k).f2) ∧ W.cell? ⟨g, k * 6 + 3, none⟩ = some (.int .i64 (rd_T54 l k).f3) ∧ W.cell? ⟨g, k * 6 + 4, none⟩ = some (.string (rd_T54 l k).f4) ∧ W.cell? ⟨g, k * 6 + 5, none⟩ = some (.slice A5 (rd_T54 l k).f5.length c5) ∧ Kd.C k60 W A5 (rd_T54 l k).f5.length (rd_T54 l k).f5 ∧ ∀ j, W.frozen? ⟨g, k * 6 + j, none⟩ = false := by
  obtain ⟨cur, h1, h2, h3, h4, h5, h6, h7, hf⟩ := h
  have hx : l[k]? = some (rd_T54 l k) := by
    rw [List.getElem?_eq_getElem (by omega)]
    congr 1
    simp [rd_T54, List.getD_eq_getElem?_getD, List.getElem?_eq_getElem (by omega : k < l.length)]
  obtain ⟨A5, c5, he, l5, g5⟩ := k54_openF (hf k _ hx)
  have hc : ∀ i u, (seg 6 cur k)[i]? = some u → i < 6 → W.cell? ⟨g, k * 6 + i, none⟩ = some u := fun i u hu hi => by
    rw [blk_cell h1]
    rw [seg_cells hi] at hu
    simpa using hu
  rw [he] at hc
  exact ⟨A5, c5, hc 0 _ rfl (by decide), hc 1 _ rfl (by decide), hc 2 _ rfl (by decide), hc 3 _ rfl (by decide), hc 4 _ rfl (by decide), hc 5 _ rfl (by decide), Kd.F_now g5, fun j => blk_frozen h1 _⟩
/-- Its Extra was made one's own. -/
theorem mix_step {A6 : Option Addr} {c6 : Nat} (h : MixR base g n cap okA okB k l W) (hk : k < n) (hW : ∀ q, q < W.heap.size → W'.heap[q]? = W.heap[q]?) (hl : (rd_T54 l k).f5.length ≤ c6) (hF : Kd.F k60 W' (fun q => okA q ∧ q ≠ g) A6 (rd_T54 l k).f5.length (rd_T54 l k).f5) :
    MixR base g n cap okA okB (k + 1) l (W'.setCell ⟨g, k * 6 + 5, none⟩ (.slice A6 (rd_T54 l k).f5.length c6)) := by
  obtain ⟨cur, h1, h2, h3, h4, h5, h6, h7, hf⟩ := h
  have hg := blk_lt h1
  have h1' : W'.heap[g]? = some (.cells cur.toArray 54 (0, 0)) := (hW g hg).trans h1
  have hx : l[k]? = some (rd_T54 l k) := by
    rw [List.getElem?_eq_getElem (by omega)]
    congr 1
    simp [rd_T54, List.getD_eq_getElem?_getD, List.getElem?_eq_getElem (by omega : k < l.length)]
  have hlt : k * 6 + 5 < cur.length := by omega
  refine ⟨cur.set (k * 6 + 5) (.slice A6 (rd_T54 l k).f5.length c6), ?_, by rw [List.length_set]; exact h2, h3, h4, h5, h6, h7, fun j x hxj => ?_⟩
  · have e := blk_set h1' (k * 6 + 5) (.slice A6 (rd_T54 l k).f5.length c6)
    rw [e]
    congr 2
    apply Array.ext'
    simp [Array.setIfInBounds, hlt]
  · have keep : ∀ (ok : Nat → Prop) (y : S54) (cs : List Value), Kd.FK k54 W (fun q => ok q ∧ q ≠ g) y cs → Kd.FK k54 (W'.setCell ⟨g, k * 6 + 5, none⟩ (.slice A6 (rd_T54 l k).f5.length c6)) (fun q => ok q ∧ q ≠ g) y cs := fun ok y cs hy =>
      Kd.FK_step hy (fun q hq hlt => (Below.heap_setCell W' ⟨g, k * 6 + 5, none⟩ _ q hq.2).trans (hW q hlt))
    by_cases hjk : j = k
    · subst hjk
      obtain rfl : rd_T54 l j = x := by rw [hx] at hxj; injection hxj
      have hs : seg 6 (cur.set (j * 6 + 5) (.slice A6 (rd_T54 l j).f5.length c6)) j = [.string (rd_T54 l j).f0, .string (rd_T54 l j).f1, .int .i64 (rd_T54 l j).f2, .int .i64 (rd_T54 l j).f3, .string (rd_T54 l j).f4, .slice A6 (rd_T54 l j).f5.length c6] := by
        obtain ⟨A5, c5, he, _, _⟩ := k54_openF (hf j _ hx)
        have hc : ∀ i, i < 6 → cur[j * 6 + i]? = (seg 6 cur j)[i]? := fun i hi => (seg_cells hi).symm
        rw [he] at hc
        apply List.ext_getElem?
        intro q
        by_cases hq : q < 6
        · rw [seg_cells hq]
          by_cases h5 : q = 5
          · subst h5
            rw [List.getElem?_set_self hlt]
            rfl
          · rw [List.getElem?_set_ne (by omega), hc q hq]
            rcases q with _ | _ | _ | _ | _ | q
            · rfl
            · rfl
            · rfl
            · rfl
            · rfl
            · omega
        · unfold seg
          rw [List.getElem?_take, if_neg hq, List.getElem?_eq_none (by simp; omega)]
      rw [hs]
      refine k54_mkF _ _ _ hl (Kd.F_mono (Kd.F_far (p := ⟨g, j * 6 + 5, none⟩) hF (fun q hq => hq.2) _) (fun q hq => ⟨by rw [if_pos (Nat.lt_succ_self _)]; exact hq.1, hq.2⟩))
    · rw [seg_set_ne (by decide) hjk]
      refine keep (fun q => if j < k + 1 then okA q else okB q) x _ (Kd.FK_mono (hf j x hxj) (fun q hq => ⟨?_, hq.2⟩))
      have h8 := hq.1
      by_cases hj : j < k
      · rw [if_pos hj] at h8
        show (if j < k + 1 then okA q else okB q)
        rw [if_pos (by omega)]
        exact h8
      · rw [if_neg hj] at h8
        show (if j < k + 1 then okA q else okB q)
        rw [if_neg (by omega)]
        exact h8
end

end Go.Proofs.Ytadhfedbgeenlaa.H

/- The program's Do. -/
namespace Go.Proofs.Ytadhfedbgeenlaa.H
open Go.RowKit Go.Proofs.YtadhfedbgeenlaaW.PrintWords Go.Proofs.YtadhfedbgeenlaaW.PrintLast Go.Proofs.YtadhfedbgeenlaaW.PrintMore
set_option linter.unusedVariables false
set_option linter.unusedSimpArgs false
theorem N_cases {W : World} {base n c : Nat} {ok : Nat → Prop} {A : Option Addr} {l : List S54} (hN : Kd.N k54 54 W base ok (.slice A n c) l) : (∃ g, A = some ⟨g, 0, none⟩) ∨ (A = none ∧ l = [] ∧ c = 0) := by
  have hn := (Kd.N_reads' hN).1
  obtain ⟨h0, rows, hl, hR, hf⟩ := hN
  obtain ⟨r0, inner, hown, hrep⟩ := hR
  obtain ⟨h1, h2 | ⟨g', cap', cur, hv, _⟩⟩ := hown
  · have h3 := h2.1
    injection h3 with h4 h5 h6
    exact .inr ⟨h4, List.eq_nil_of_length_eq_zero (by omega), h6⟩
  · injection hv with hv1
    exact .inl ⟨g', hv1⟩
/-- The desk while its records' Extra are made its own. -/
def DoW (B n0 : Nat) (W0 : World) (d : Nat) (o : S36) (l : List S54) (A : Option Addr) (c k : Nat) (W : World) : Prop :=
  Below B W0 W ∧ B ≤ d ∧ W.heap[d]? = some (.cells #[.slice A l.length c, .int .i64 o.f0, .string o.f1, .string o.f2, .int .i64 o.f3, .string o.f4, .int .i64 o.f5, .string o.f6, .int .i64 0, .bool false] 75 (0, 0)) ∧
    ((A = none ∧ l = [] ∧ c = 0) ∨ ∃ g, A = some ⟨g, 0, none⟩ ∧ g ≠ d ∧ MixR B g l.length c (fun j => B ≤ j ∧ j ≠ d) (fun j => (j < n0 ∨ B ≤ j) ∧ j ≠ d) k l W)
theorem doW_start {B n0 : Nat} {W0 W : World} {A : Option Addr} {c : Nat} {o : S36} {l : List S54} (hN : Kd.N k54 54 W B (fun j => j < n0 ∨ B ≤ j) (.slice A l.length c) l) (hB : Below B W0 W) (hbw : B ≤ W.heap.size) :
    DoW B n0 W0 W.heap.size o l A c 0 (W.alloc (.cells #[.slice A l.length c, .int .i64 o.f0, .string o.f1, .string o.f2, .int .i64 o.f3, .string o.f4, .int .i64 o.f5, .string o.f6, .int .i64 0, .bool false] 75)) := by
  have hNE := Kd.N_alloc (Kd.N_elderB hN W.heap.size (Nat.le_refl _)) (.cells #[.slice A l.length c, .int .i64 o.f0, .string o.f1, .string o.f2, .int .i64 o.f3, .string o.f4, .int .i64 o.f5, .string o.f6, .int .i64 0, .bool false] 75)
  refine ⟨hB.alloc hbw _, hbw, new_at rfl _, ?_⟩
  rcases N_cases hN with ⟨g, rfl⟩ | h
  · have hlt := Kd.N_lt hN g (by simp [Value.ownBlock])
    have hbg := Kd.N_base hN g (by simp [Value.ownBlock])
    exact .inr ⟨g, rfl, by omega, mix_start hNE ⟨hbg, by omega⟩ (fun q hq => hq)⟩
  · exact .inl h
theorem doW_end {B n0 : Nat} {W0 W : World} {d : Nat} {o : S36} {l : List S54} {A : Option Addr} {c : Nat} (h : DoW B n0 W0 d o l A c l.length W) : DeskG B W0 d o 0 false l A c (fun _ => True) W := by
  obtain ⟨hB, hbd, hd, h | ⟨g, rfl, hgd, hM⟩⟩ := h
  · obtain ⟨rfl, rfl, rfl⟩ := h
    exact ⟨hbd, hB, hd, Kd.N_nil _ _ _ _ _⟩
  · exact ⟨hbd, hB, hd, Kd.N_mono (mix_end hM) (fun j hj => ⟨hj, trivial⟩)⟩
theorem doW_below {B n0 : Nat} {W0 W W' : World} {d k : Nat} {o : S36} {l : List S54} {A : Option Addr} {c : Nat} (h : DoW B n0 W0 d o l A c k W) (hbw : B ≤ W.heap.size) (hb : Below W.heap.size W W') : DoW B n0 W0 d o l A c k W' := by
  obtain ⟨hB, hbd, hd, h | ⟨g, rfl, hgd, hM⟩⟩ := h
  · exact ⟨below_then hB hbw hb, hbd, kept_on hb hd, .inl h⟩
  · exact ⟨below_then hB hbw hb, hbd, kept_on hb hd, .inr ⟨g, rfl, hgd, mix_below hM hb⟩⟩
/-- Element k's Extra, cloned, is stored. -/
theorem doW_step {B n0 : Nat} {W0 W W2 : World} {d g k c c6 : Nat} {o : S36} {l : List S54} {A6 : Option Addr} (h : DoW B n0 W0 d o l (some ⟨g, 0, none⟩) c k W) (hk : k < l.length) (hbw : B ≤ W.heap.size) (hb : Below W.heap.size W W2)
    (hR : Kd.R k60 60 W2 W.heap.size (fun _ => True) (.slice A6 (rd_T54 l k).f5.length c6) (rd_T54 l k).f5) : DoW B n0 W0 d o l (some ⟨g, 0, none⟩) c (k + 1) (W2.setCell ⟨g, k * 6 + 5, none⟩ (.slice A6 (rd_T54 l k).f5.length c6)) := by
  obtain ⟨hB, hbd, hd, h | ⟨g', hg', hgd, hM⟩⟩ := h
  · exact absurd h.1 (by simp)
  · injection hg' with hg'
    injection hg' with hg'
    subst hg'
    have hdl := blk_lt hd
    have hgl : g < W.heap.size := by obtain ⟨cur, h1, _⟩ := hM; exact blk_lt h1
    have hbg : B ≤ g := by obtain ⟨cur, h1, h2, h3, h4, h5, h6, _⟩ := hM; exact h6
    refine ⟨(below_then hB hbw hb).setCell (p := ⟨g, k * 6 + 5, none⟩) hbg _, hbd, blk_far (kept_on hb hd) (p := ⟨g, k * 6 + 5, none⟩) (fun e => hgd e.symm) _, .inr ⟨g, rfl, hgd, ?_⟩⟩
    obtain ⟨_, _, he, hl6, _⟩ := Kd.R_reads hR
    injection he with _ _ hc6
    refine mix_step hM hk (fun q hq => hb.block q hq) (by rw [hc6]; exact hl6) (Kd.F_mono (Kd.R_F (Kd.R_bound hR)) (fun q hq => ⟨⟨by omega, by omega⟩, by omega⟩))

end Go.Proofs.Ytadhfedbgeenlaa.H

/- The desk's methods, by the op's kind. -/
namespace Go.Proofs.Ytadhfedbgeenlaa.H
open Go.RowKit Go.Proofs.YtadhfedbgeenlaaW.PrintWords Go.Proofs.YtadhfedbgeenlaaW.PrintLast Go.Proofs.YtadhfedbgeenlaaW.PrintMore
set_option linter.unusedVariables false
set_option linter.unusedSimpArgs false
def GotC (base : Nat) (w0 : World) (d : Nat) (o : S36) (p : Nat) (here : Bool) (r : List S54 × RepT) (e : Ending) (w' : World) : Prop :=
  ∃ u, e = .returned (.agg #[.int .i64 r.2.f0, .int .i64 r.2.f1, .string r.2.f2, u]) ∧ (∃ A c, DeskG base w0 d o p here r.1 A c (fun _ => True) w') ∧ Kd.R Kd.string 9 w' base (fun _ => True) u r.2.f3
theorem gotC_W {base : Nat} {w0 w' : World} {d p : Nat} {o : S36} {here : Bool} {r : List S54 × RepT} {a b : Int} {s : ByteArray} {l : List S54} {e : Ending} (hr : r = (l, ⟨a, b, s, []⟩)) (he : e = .returned (.agg #[.int .i64 a, .int .i64 b, .string s, .slice none 0 0])) (h : DeskW base w0 d o p here l w') : GotC base w0 d o p here r e w' := by
  subst hr
  exact ⟨_, he, h.named, Kd.R_nil _ _ _ _ _⟩
theorem gotC_M {base : Nat} {w0 w w' : World} {d p : Nat} {o : S36} {here : Bool} {ok : Nat → Prop} {r : List S54 × RepT} {e : Ending} (h : GotM base w0 d o p here ok w r e w') : GotC base w0 d o p here r e w' := by
  obtain ⟨he, ⟨A, c, hD⟩, h3, _⟩ := h
  exact ⟨_, he, ⟨A, c, hD.mono (fun _ _ => trivial)⟩, by rw [h3]; exact Kd.R_nil _ _ _ _ _⟩
section
variable {base : Nat} {w0 w : World} {d p c : Nat} {o : S36} {here : Bool} {l : List S54} {A : Option Addr}
theorem putA_calls (hD : DeskG base w0 d o p here l A c (fun _ => True) w) (hp : p ≤ l.length) (hh : here = true → p < l.length) (hl : l.length ≤ 1000) (hbw : base ≤ w.heap.size) (hlo : ∀ x ∈ l, -9223372036854775808 ≤ x.f2 ∧ x.f2 ≤ 9007199254740992) (ok : Nat → Prop) (W : World) (hD2 : DeskG base w0 d o p here l A c ok W) (hof : ∀ j, W.heap.size ≤ j → ok j) (hbW : base ≤ W.heap.size) : Calls Try.prog 45 #[.pointer (some ⟨d, 0, none⟩)] W (GotM base w0 d o p here ok W (putP l o p here)) := by
  cases here
  · exact put0_calls base w0 d o p l A c ok W hD2 hof hp hl hbW
  · have hx := hlo _ (rd_mem (hh rfl))
    exact put1_calls base w0 d o p l A c ok W hD2 (hh rfl) hl hbW hx.1 hx.2
theorem methGet_calls (hD : DeskG base w0 d o p here l A c (fun _ => True) w) (hp : p ≤ l.length) (hh : here = true → p < l.length) (hl : l.length ≤ 1000) (hbw : base ≤ w.heap.size) (hlo : ∀ x ∈ l, -9223372036854775808 ≤ x.f2 ∧ x.f2 ≤ 9007199254740992) (hk : o.f0 = 1) : Calls Try.prog 44 #[.pointer (some ⟨d, 0, none⟩)] w (GotC base w0 d o p here (doP l o p here)) := by
  have e : doP l o p here = if here = true then doS l p o else (l, ⟨70, 0, ⟨#[]⟩, []⟩) := by unfold doP; rw [if_neg (by omega), if_neg (by omega), if_neg (by omega)]
  cases here
  · exact (get0_calls base w0 d o p l w hD.desk hbw).mono (fun _ _ h => gotC_W e h.1 h.2)
  · have e2 : doS l p o = (l, ⟨0, (rd_T54 l p).f2, (rd_T54 l p).f1, []⟩) := by unfold doS; rw [if_pos hk]
    exact (get1_calls base w0 d o p l w hD.desk (hh rfl) hl hbw).mono (fun _ _ h => gotC_W (e.trans e2) h.1 h.2)
theorem methPut_calls (hD : DeskG base w0 d o p here l A c (fun _ => True) w) (hp : p ≤ l.length) (hh : here = true → p < l.length) (hl : l.length ≤ 1000) (hbw : base ≤ w.heap.size) (hlo : ∀ x ∈ l, -9223372036854775808 ≤ x.f2 ∧ x.f2 ≤ 9007199254740992) (hk : o.f0 = 2) : Calls Try.prog 45 #[.pointer (some ⟨d, 0, none⟩)] w (GotC base w0 d o p here (doP l o p here)) := by
  have e : doP l o p here = putP l o p here := by unfold doP; rw [if_neg (by omega), if_pos hk]
  rw [e]
  exact (putA_calls hD hp hh hl hbw hlo _ w hD (fun _ _ => trivial) hbw).mono (fun _ _ h => gotC_M h)
theorem methRemove_calls (hD : DeskG base w0 d o p here l A c (fun _ => True) w) (hp : p ≤ l.length) (hh : here = true → p < l.length) (hl : l.length ≤ 1000) (hbw : base ≤ w.heap.size) (hlo : ∀ x ∈ l, -9223372036854775808 ≤ x.f2 ∧ x.f2 ≤ 9007199254740992) (hk : o.f0 = 3) : Calls Try.prog 46 #[.pointer (some ⟨d, 0, none⟩)] w (GotC base w0 d o p here (doP l o p here)) := by
  have e : doP l o p here = if here = true then doS l p o else (l, ⟨70, 0, ⟨#[]⟩, []⟩) := by unfold doP; rw [if_neg (by omega), if_neg (by omega), if_neg (by omega)]
  cases here
  · exact (remove0_calls base w0 d o p l w hD.desk hbw).mono (fun _ _ h => gotC_W e h.1 h.2)
  · have e2 : doS l p o = (l.eraseIdx p, ⟨0, (rd_T54 l p).f2, ⟨#[]⟩, []⟩) := by unfold doS; rw [if_neg (by omega), if_pos hk]
    exact (remove1_calls base w0 d o p l w hD.desk (hh rfl) hl hbw).mono (fun _ _ h => gotC_W (e.trans e2) h.1 h.2)
theorem methCas_calls (hD : DeskG base w0 d o p here l A c (fun _ => True) w) (hp : p ≤ l.length) (hh : here = true → p < l.length) (hl : l.length ≤ 1000) (hbw : base ≤ w.heap.size) (hlo : ∀ x ∈ l, -9223372036854775808 ≤ x.f2 ∧ x.f2 ≤ 9007199254740992) (hk : o.f0 = 4) : Calls Try.prog 47 #[.pointer (some ⟨d, 0, none⟩)] w (GotC base w0 d o p here (doP l o p here)) := by
  have e : doP l o p here = casP l o p here := by unfold doP casP; rw [if_neg (by omega), if_neg (by omega), if_pos hk]
  rw [e]
  exact (cas_calls base w0 d o p here l A c _ w hD (fun _ _ => trivial) hh hl hbw (fun ok' W h1 h2 h3 => putA_calls hD hp hh hl hbw hlo ok' W h1 h2 h3)).mono (fun _ _ h => gotC_M h)
theorem methMark_calls (hD : DeskG base w0 d o p here l A c (fun _ => True) w) (hp : p ≤ l.length) (hh : here = true → p < l.length) (hl : l.length ≤ 1000) (hbw : base ≤ w.heap.size) (hlo : ∀ x ∈ l, -9223372036854775808 ≤ x.f2 ∧ x.f2 ≤ 9007199254740992) (hk : o.f0 = 5) : Calls Try.prog 48 #[.pointer (some ⟨d, 0, none⟩)] w (GotC base w0 d o p here (doP l o p here)) := by
  have e : doP l o p here = if here = true then doS l p o else (l, ⟨70, 0, ⟨#[]⟩, []⟩) := by unfold doP; rw [if_neg (by omega), if_neg (by omega), if_neg (by omega)]
  cases here
  · exact (mark0_calls base w0 d o p l w hD.desk hbw).mono (fun _ _ h => gotC_W e h.1 h.2)
  · have e2 : doS l p o = chP l p { rd_T54 l p with f3 := o.f5, f4 := o.f6 } := by unfold doS; rw [if_neg (by omega), if_neg (by omega)]; rfl
    have hx := hlo _ (rd_mem (hh rfl))
    rw [e, if_pos rfl, e2]
    exact (mark1_calls base w0 d o p l A c _ w hD (hh rfl) hl hbw hx.1 hx.2).mono (fun _ _ h => gotC_M h)
theorem methScan_calls (hD : DeskG base w0 d o p here l A c (fun _ => True) w) (hp : p ≤ l.length) (hh : here = true → p < l.length) (hl : l.length ≤ 1000) (hbw : base ≤ w.heap.size) (hlo : ∀ x ∈ l, -9223372036854775808 ≤ x.f2 ∧ x.f2 ≤ 9007199254740992) (hk : o.f0 = 6) : Calls Try.prog 49 #[.pointer (some ⟨d, 0, none⟩)] w (GotC base w0 d o p here (doP l o p here)) := by
  have e : doP l o p here = (l, ⟨0, 0, ⟨#[]⟩, scanP (l.drop p) o.f4 5⟩) := by unfold doP; rw [if_pos hk]
  rw [e]
  have hr := Kd.N_reads' hD.2.2.2
  have fin : ∀ (e : Ending) (w' : World), (∃ v, e = .returned (.agg #[.int .i64 0, .int .i64 0, .string ⟨#[]⟩, v]) ∧ Kd.R Kd.string 9 w' w.heap.size (fun _ => True) v (scanP (l.drop p) o.f4 5) ∧ Below w.heap.size w w') → GotC base w0 d o p here (l, ⟨0, 0, ⟨#[]⟩, scanP (l.drop p) o.f4 5⟩) e w' := by
    rintro e w' ⟨v, h1, h2, h3⟩
    exact ⟨v, h1, ⟨A, c, hD.below hbw h3⟩, Kd.R_lower h2 hbw⟩
  by_cases hcp : c = p
  · exact (scanE_calls d o p here l A c w hD.2.2.1 hr.2.2 hr.2.1 hp hl (.inr hcp)).mono fin
  · rcases N_cases hD.2.2.2 with ⟨g, rfl⟩ | ⟨rfl, _, _⟩
    · exact (scanM_calls d o p here l _ c w hD.2.2.1 hr.2.2 hr.2.1 hp hl g rfl hcp).mono fin
    · exact (scanE_calls d o p here l _ c w hD.2.2.1 hr.2.2 hr.2.1 hp hl (.inl rfl)).mono fin
end

end Go.Proofs.Ytadhfedbgeenlaa.H
