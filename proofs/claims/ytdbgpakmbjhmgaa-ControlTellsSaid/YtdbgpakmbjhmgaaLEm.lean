/- What a law's walk owns: a controller in a variable that is stored into. -/
import Derived.Test.YtdbgpakmbjhmgaaLEk
namespace Go.Proofs.Ytdbgpakmbjhmgaa.H
open Go.RowKit Go.Proofs.YtdbgpakmbjhmgaaW.PrintWords Go.Proofs.YtdbgpakmbjhmgaaW.PrintLast Go.Proofs.YtdbgpakmbjhmgaaW.PrintMore
set_option linter.unusedVariables false
set_option linter.unusedSimpArgs false

def Bytes (c : Ctl) : Prop := c.2.1.length * 16 ≤ 140737488355328 ∧ c.2.2.length * 24 ≤ 140737488355328
theorem Short.bytes {c : Ctl} (h : Short c) : Bytes c := by obtain ⟨h1, h2⟩ := h; exact ⟨by omega, by omega⟩
/-- A controller in block g, whose rows lie from b on. -/
def OwnC (b g : Nat) (c : Ctl) (W : World) : Prop :=
  ∃ A1 c1 A2 c2, W.heap[g]? = some (.cells #[.int .i64 c.1, .slice A1 c.2.1.length c1, .slice A2 c.2.2.length c2] 26 (0, 0)) ∧ Kd.R k45 45 W b (fun _ => True) (.slice A1 c.2.1.length c1) c.2.1 ∧ Kd.R k48 48 W b (fun _ => True) (.slice A2 c.2.2.length c2) c.2.2 ∧ Bytes c
theorem OwnC.below {b g : Nat} {c : Ctl} {W W' : World} (h : OwnC b g c W) (hb : Below W.heap.size W W') : OwnC b g c W' := by
  obtain ⟨A1, c1, A2, c2, h1, h2, h3, h4⟩ := h
  exact ⟨A1, c1, A2, c2, kept_on hb h1, Kd.R_below h2 hb, Kd.R_below h3 hb, h4⟩
theorem OwnC.holds {b g : Nat} {c : Ctl} {W : World} (h : OwnC b g c W) : HoldsC g c W := by
  obtain ⟨A1, c1, A2, c2, h1, h2, h3, h4⟩ := h
  exact ⟨A1, c1, A2, c2, h1, (Kd.R_reads' h2).2.2, (Kd.R_reads' h3).2.2, h4.1, h4.2⟩
/-- What a command gives, with its rows. -/
def GotR (r : Int × Ctl) (w : World) (e : Ending) (w' : World) : Prop :=
  ∃ A1 c1 A2 c2, e = .returned (.tuple #[.agg #[.int .i64 r.2.1, .slice A1 r.2.2.1.length c1, .slice A2 r.2.2.2.length c2], .int .i64 r.1]) ∧ Kd.R k45 45 w' w.heap.size (fun _ => True) (.slice A1 r.2.2.1.length c1) r.2.2.1 ∧ Kd.R k48 48 w' w.heap.size (fun _ => True) (.slice A2 r.2.2.2.length c2) r.2.2.2 ∧ Below w.heap.size w w'
theorem gotR_of {r : Int × Ctl} {w : World} {e : Ending} {w' : World} (h : ∃ v1 v2, e = .returned (.tuple #[.agg #[.int .i64 r.2.1, v1, v2], .int .i64 r.1]) ∧ Kd.R k45 45 w' w.heap.size (fun _ => True) v1 r.2.2.1 ∧ Kd.R k48 48 w' w.heap.size (fun _ => True) v2 r.2.2.2 ∧ Below w.heap.size w w') : GotR r w e w' := by
  obtain ⟨v1, v2, rfl, h1, h2, h3⟩ := h
  obtain ⟨A1, c1, rfl⟩ := Kd.R_slice h1
  obtain ⟨A2, c2, rfl⟩ := Kd.R_slice h2
  exact ⟨A1, c1, A2, c2, rfl, h1, h2, h3⟩
def Got1R (c : Ctl) (w : World) (e : Ending) (w' : World) : Prop :=
  ∃ A1 c1 A2 c2, e = .returned (.agg #[.int .i64 c.1, .slice A1 c.2.1.length c1, .slice A2 c.2.2.length c2]) ∧ Kd.R k45 45 w' w.heap.size (fun _ => True) (.slice A1 c.2.1.length c1) c.2.1 ∧ Kd.R k48 48 w' w.heap.size (fun _ => True) (.slice A2 c.2.2.length c2) c.2.2 ∧ Below w.heap.size w w'
theorem got1R_of {c : Ctl} {w : World} {e : Ending} {w' : World} (h : ∃ v1 v2, e = .returned (.agg #[.int .i64 c.1, v1, v2]) ∧ Kd.R k45 45 w' w.heap.size (fun _ => True) v1 c.2.1 ∧ Kd.R k48 48 w' w.heap.size (fun _ => True) v2 c.2.2 ∧ Below w.heap.size w w') : Got1R c w e w' := by
  obtain ⟨v1, v2, rfl, h1, h2, h3⟩ := h
  obtain ⟨A1, c1, rfl⟩ := Kd.R_slice h1
  obtain ⟨A2, c2, rfl⟩ := Kd.R_slice h2
  exact ⟨A1, c1, A2, c2, rfl, h1, h2, h3⟩
/-- A controller that came with its rows is laid into a new block. -/
theorem own_new {b b1 : Nat} {c : Ctl} {W : World} {A1 A2 : Option Addr} {c1 c2 : Nat} (h1 : Kd.R k45 45 W b1 (fun _ => True) (.slice A1 c.2.1.length c1) c.2.1) (h2 : Kd.R k48 48 W b1 (fun _ => True) (.slice A2 c.2.2.length c2) c.2.2) (hb : b ≤ b1) (hs : Bytes c) :
    OwnC b W.heap.size c (W.alloc (.cells #[.int .i64 c.1, .slice A1 c.2.1.length c1, .slice A2 c.2.2.length c2] 26)) :=
  ⟨A1, c1, A2, c2, heap_alloc_new _ _, Kd.R_lower (Kd.R_below h1 (below_alloc (Below.refl _ _) _)) hb, Kd.R_lower (Kd.R_below h2 (below_alloc (Below.refl _ _) _)) hb, hs⟩
/-- .. is stored into a block that there is. -/
theorem own_store {b b1 g : Nat} {c c0 : Ctl} {W : World} {A1 A2 : Option Addr} {c1 c2 : Nat} (h0 : OwnC b g c0 W) (h1 : Kd.R k45 45 W b1 (fun _ => True) (.slice A1 c.2.1.length c1) c.2.1) (h2 : Kd.R k48 48 W b1 (fun _ => True) (.slice A2 c.2.2.length c2) c.2.2) (hb : b ≤ b1) (hs : Bytes c) :
    OwnC b g c (((W.setCell ⟨g, 0, none⟩ (.int .i64 c.1)).setCell ⟨g, 1, none⟩ (.slice A1 c.2.1.length c1)).setCell ⟨g, 2, none⟩ (.slice A2 c.2.2.length c2)) := by
  obtain ⟨_, _, _, _, h, _⟩ := h0
  exact ⟨A1, c1, A2, c2, own_set h _ _ _, own_R h1 h hb (by decide), own_R h2 h hb (by decide), hs⟩
/-- Another variable stays. -/
theorem own_other {b g g' : Nat} {c c0 : Ctl} {W : World} {x y z : Value} (h0 : OwnC b g c W) (h1 : OwnC b g' c0 W) (hne : g ≠ g') : OwnC b g c (((W.setCell ⟨g', 0, none⟩ x).setCell ⟨g', 1, none⟩ y).setCell ⟨g', 2, none⟩ z) := by
  obtain ⟨A1, c1, A2, c2, h, r1, r2, hs⟩ := h0
  obtain ⟨_, _, _, _, h', _⟩ := h1
  exact ⟨A1, c1, A2, c2, blk_other (blk_other (blk_other h _ _ hne) _ _ hne) _ _ hne, own_R r1 h' (Nat.le_refl _) (by decide), own_R r2 h' (Nat.le_refl _) (by decide), hs⟩
/-- What a command gives is laid into a block that was made ahead of the call. -/
theorem Hs.newAt {w W W1 : World} {L : List (Nat × Ctl)} {c : Ctl} {A1 A2 : Option Addr} {c1 c2 b1 : Nat} {x y z : Value} (h : Hs w L W) (hb : Below (W.alloc (.cells #[x, y, z] 26)).heap.size (W.alloc (.cells #[x, y, z] 26)) W1)
    (h1 : Kd.R k45 45 W1 b1 (fun _ => True) (.slice A1 c.2.1.length c1) c.2.1) (h2 : Kd.R k48 48 W1 b1 (fun _ => True) (.slice A2 c.2.2.length c2) c.2.2) (hs : Bytes c) :
    Hs w ((W.heap.size, c) :: L) (((W1.setCell ⟨W.heap.size, 0, none⟩ (.int .i64 c.1)).setCell ⟨W.heap.size, 1, none⟩ (.slice A1 c.2.1.length c1)).setCell ⟨W.heap.size, 2, none⟩ (.slice A2 c.2.2.length c2)) := by
  have hg : W1.heap[W.heap.size]? = some (.cells #[x, y, z] 26 (0, 0)) := kept_on hb (heap_alloc_new _ _)
  have ha : Below W.heap.size W (W.alloc (.cells #[x, y, z] 26)) := below_alloc (Below.refl _ _) _
  have hB : Below W.heap.size W (((W1.setCell ⟨W.heap.size, 0, none⟩ (.int .i64 c.1)).setCell ⟨W.heap.size, 1, none⟩ (.slice A1 c.2.1.length c1)).setCell ⟨W.heap.size, 2, none⟩ (.slice A2 c.2.2.length c2)) :=
    below_set (below_set (below_set (below_then ha ha.size hb) (Nat.le_refl _)) (Nat.le_refl _)) (Nat.le_refl _)
  have h' := h.below hB
  refine ⟨h'.1, fun q hq => ?_⟩
  rcases List.mem_cons.1 hq with e | e
  · subst e
    exact ⟨A1, c1, A2, c2, own_set hg _ _ _, (Kd.R_reads' (own_R h1 hg (Nat.le_refl _) (by decide))).2.2, (Kd.R_reads' (own_R h2 hg (Nat.le_refl _) (by decide))).2.2, hs⟩
  · exact h'.2 q e
def zeroP (k : Nat) (ps : List Pla) : List Pla := (ps.take k).map (fun p => ⟨p.f0, p.f1, 0⟩) ++ ps.drop k
theorem zeroP_len (k : Nat) (ps : List Pla) : (zeroP k ps).length = ps.length := by
  unfold zeroP
  rw [List.length_append, List.length_map, List.length_take, List.length_drop]
  omega
theorem zeroP_rd {k : Nat} {ps : List Pla} (h : k < ps.length) : rd_T48 (zeroP k ps) (k : Int) = ps[k] := by
  rw [rdP_get _ (by omega) (by rw [zeroP_len]; omega)]
  simp only [Int.toNat_natCast, zeroP]
  rw [List.getElem_append_right (by rw [List.length_map, List.length_take]; omega)]
  simp only [List.length_map, List.length_take, List.getElem_drop]
  congr 1
  omega
theorem zeroP_step {k : Nat} {ps : List Pla} (h : k < ps.length) : (zeroP k ps).set k ⟨(rd_T48 (zeroP k ps) (k : Int)).f0, (rd_T48 (zeroP k ps) (k : Int)).f1, 0⟩ = zeroP (k + 1) ps := by
  rw [zeroP_rd h]
  unfold zeroP
  rw [List.set_append_right _ _ (by rw [List.length_map, List.length_take]; omega), List.length_map, List.length_take]
  rw [show k - min k ps.length = 0 by omega, List.drop_eq_getElem_cons h, List.set_cons_zero, List.take_add_one, List.getElem?_eq_getElem h, Option.toList_some, List.map_append]
  simp
theorem zeroP_all (ps : List Pla) : zeroP ps.length ps = ps.map (fun p => ⟨p.f0, p.f1, 0⟩) := by
  unfold zeroP
  rw [List.take_length, List.drop_length, List.append_nil]
/-- One of the places' To is stored. -/
theorem own_to {b g gp k : Nat} {c : Ctl} {W : World} {A1 : Option Addr} {c1 c2 : Nat} (h0 : W.heap[g]? = some (.cells #[.int .i64 c.1, .slice A1 c.2.1.length c1, .slice (some ⟨gp, 0, none⟩) c.2.2.length c2] 26 (0, 0)))
    (h1 : Kd.R k45 45 W b (fun _ => True) (.slice A1 c.2.1.length c1) c.2.1) (h2 : Kd.R k48 48 W b (fun _ => True) (.slice (some ⟨gp, 0, none⟩) c.2.2.length c2) c.2.2) (hs : Bytes c) (hk : k < c.2.2.length) {cells : Array Value} (hp : W.heap[gp]? = some (.cells cells 48 (0, 0))) :
    OwnC b g (c.1, c.2.1, c.2.2.set k ⟨(rd_T48 c.2.2 (k : Int)).f0, (rd_T48 c.2.2 (k : Int)).f1, 0⟩) (W.setCell ⟨gp, k * 3 + 2, none⟩ (.int .i64 0)) := by
  have hne : g ≠ gp := fun e => by rw [e, hp] at h0; injection h0 with h; injection h with _ h; exact absurd h (by decide)
  have ht := (R_to h2 (k : Int) (by omega) (by omega) 0).1
  rw [Int.toNat_natCast] at ht
  refine ⟨A1, c1, some ⟨gp, 0, none⟩, c2, ?_, Kd.R_set h1 hp (by decide) _ _, ?_, ?_⟩
  · have := blk_other h0 ⟨gp, k * 3 + 2, none⟩ (.int .i64 0) hne
    simpa using this
  · simpa using ht
  · exact ⟨hs.1, by show (List.set _ _ _).length * 24 ≤ _; rw [List.length_set]; exact hs.2⟩
def ownerN (ps : List Pla) (n : Int) : Int := ((ps.filter (fun p => p.f0 == n)).length : Nat)
theorem ownerN_take (ps : List Pla) (k : Nat) (h : k < ps.length) (n : Int) : ownerN (ps.take (k + 1)) n = ownerN (ps.take k) n + (if ((rd_T48 ps k).f0 == n) = true then 1 else 0) := by
  have e : rd_T48 ps k = ps[k] := rdP_get ps (by omega) (by omega)
  rw [e]
  unfold ownerN
  rw [List.take_add_one, List.getElem?_eq_getElem h, Option.toList_some, List.filter_append]
  by_cases hx : (ps[k].f0 == n) = true
  · simp [hx]
  · simp [hx]
theorem ownerN_le (ps : List Pla) (n : Int) : 0 ≤ ownerN ps n ∧ ownerN ps n ≤ ps.length := by
  have := List.length_filter_le (fun p : Pla => p.f0 == n) ps
  unfold ownerN
  omega
theorem ownerN_eq {ps : List Pla} (h : StillAll ps) {n : Int} (hn : ¬ n = 0) : ownerN ps n = loadC ps n := by
  unfold ownerN loadC
  congr 2
  apply List.filter_congr
  intro p hp
  rw [hasLoad_eq hn]
  have : own1 p = p.f0 := by unfold own1 or2; rw [if_pos (h p hp)]
  rw [this]
/-- A law's own controller: in block g, all of the call's making. -/
def Own1 (w : World) (g : Nat) (c : Ctl) (W : World) : Prop := w.heap.size ≤ g ∧ OwnC w.heap.size g c W ∧ Below w.heap.size w W
theorem Own1.below {w W W' : World} {g : Nat} {c : Ctl} (h : Own1 w g c W) (hb : Below W.heap.size W W') : Own1 w g c W' := ⟨h.1, h.2.1.below hb, below_then h.2.2 h.2.2.size hb⟩
theorem Own1.hs {w W : World} {g : Nat} {c : Ctl} (h : Own1 w g c W) : Hs w [(g, c)] W := ⟨h.2.2, fun x hx => by
  rcases List.mem_cons.1 hx with e | e
  · subst e; exact h.2.1.holds
  · cases e⟩
theorem lo_take (F : Int → Int) (ms : List Mem) (k : Nat) (h : k < ms.length) : loN F (ms.take (k + 1)) = min (loN F (ms.take k)) (F (rd_T45 ms k).f0) := by
  rw [rd_get ms (by omega) (by omega)]
  unfold loN
  rw [List.take_add_one, List.getElem?_eq_getElem h, Option.toList_some, List.foldl_append]
  simp
theorem hi_take (F : Int → Int) (ms : List Mem) (k : Nat) (h : k < ms.length) : hiN F (ms.take (k + 1)) = max (hiN F (ms.take k)) (F (rd_T45 ms k).f0) := by
  rw [rd_get ms (by omega) (by omega)]
  unfold hiN
  rw [List.take_add_one, List.getElem?_eq_getElem h, Option.toList_some, List.foldl_append]
  simp
theorem lo_range {F : Int → Int} (ms : List Mem) (h : ∀ m ∈ ms, 0 ≤ F m.f0) : 0 ≤ loN F ms ∧ loN F ms ≤ 9 := by
  refine ⟨lo_ge (by decide) h, ?_⟩
  unfold loN
  have : ∀ (l : List Mem) (a : Int), a ≤ 9 → l.foldl (fun a m => min a (F m.f0)) a ≤ 9 := fun l => by
    induction l with
    | nil => intro a ha; exact ha
    | cons m l ih => intro a ha; rw [List.foldl_cons]; exact ih _ (by omega)
  exact this ms 9 (by decide)
theorem hi_range {F : Int → Int} (ms : List Mem) (h : ∀ m ∈ ms, F m.f0 ≤ 8) : 0 ≤ hiN F ms ∧ hiN F ms ≤ 8 := by
  refine ⟨?_, hi_le (by decide) h⟩
  unfold hiN
  have : ∀ (l : List Mem) (a : Int), 0 ≤ a → 0 ≤ l.foldl (fun a m => max a (F m.f0)) a := fun l => by
    induction l with
    | nil => intro a ha; exact ha
    | cons m l ih => intro a ha; rw [List.foldl_cons]; exact ih _ (by omega)
  exact this ms 0 (by decide)
end Go.Proofs.Ytdbgpakmbjhmgaa.H
