/- Plain laws of ControlEven, and Balance of both texts. -/
import Derived.Test.YtdbgpakmbjhmgaaLEf
namespace Go.Proofs.Ytdbgpakmbjhmgaa.H
open Go.RowKit Go.Proofs.YtdbgpakmbjhmgaaW.PrintWords Go.Proofs.YtdbgpakmbjhmgaaW.PrintLast Go.Proofs.YtdbgpakmbjhmgaaW.PrintMore
set_option linter.unusedVariables false
set_option linter.unusedSimpArgs false

theorem hasLoad_eq {n : Int} (hn : ¬ n = 0) (p : Pla) : hasLoad n p = (own1 p == n) := by
  unfold hasLoad own1 or2
  by_cases h : p.f2 = 0
  · have h1 : (p.f2 == n) = false := by rw [beq_eq_false_iff_ne, h]; exact fun e => hn e.symm
    rw [h1, if_pos h, h]; simp
  · have h1 : (p.f2 == 0) = false := beq_eq_false_iff_ne.2 h
    rw [h1, if_neg h]; simp
theorem loadC_eq {n : Int} (hn : ¬ n = 0) (ps : List Pla) : loadC ps n = loadsC ps n := by
  unfold loadC loadsC
  have : hasLoad n = fun p => own1 p == n := funext (hasLoad_eq hn)
  rw [this]
theorem bestMin_mem (f : Int → Int) : ∀ (l : List Mem) (m : Mem), bestMin f m l ∈ m :: l
  | [], m => by simp [bestMin]
  | x :: l, m => by
    rw [bestMin]
    have := bestMin_mem f l (if f x.f0 < f m.f0 then x else m)
    split at this <;> simp at this ⊢ <;> rcases this with h | h
    · rw [if_pos (by assumption)]; exact Or.inr (Or.inl h)
    · rw [if_pos (by assumption)]; exact Or.inr (Or.inr h)
    · rw [if_neg (by omega)]; exact Or.inl h
    · rw [if_neg (by omega)]; exact Or.inr (Or.inr h)
theorem bestMax_mem (f : Int → Int) : ∀ (l : List Mem) (m : Mem), bestMax f m l ∈ m :: l
  | [], m => by simp [bestMax]
  | x :: l, m => by
    rw [bestMax]
    have := bestMax_mem f l (if f m.f0 < f x.f0 then x else m)
    split at this <;> simp at this ⊢ <;> rcases this with h | h
    · rw [if_pos (by assumption)]; exact Or.inr (Or.inl h)
    · rw [if_pos (by assumption)]; exact Or.inr (Or.inr h)
    · rw [if_neg (by omega)]; exact Or.inl h
    · rw [if_neg (by omega)]; exact Or.inr (Or.inr h)
theorem bestMin_le (f : Int → Int) : ∀ (l : List Mem) (m : Mem), (∀ x ∈ m :: l, f (bestMin f m l).f0 ≤ f x.f0)
  | [], m, x, h => by simp at h; subst h; exact Int.le_refl _
  | y :: l, m, x, h => by
    rw [bestMin]
    have ih := bestMin_le f l (if f y.f0 < f m.f0 then y else m)
    have h0 := ih _ (List.mem_cons_self ..)
    rcases List.mem_cons.1 h with e | e
    · subst e; split at h0 <;> (rename_i hc; first | rw [if_pos hc] | rw [if_neg hc]) <;> omega
    rcases List.mem_cons.1 e with e | e
    · subst e; split at h0 <;> (rename_i hc; first | rw [if_pos hc] | rw [if_neg hc]) <;> omega
    · exact ih x (List.mem_cons_of_mem _ e)
theorem bestMax_ge (f : Int → Int) : ∀ (l : List Mem) (m : Mem), (∀ x ∈ m :: l, f x.f0 ≤ f (bestMax f m l).f0)
  | [], m, x, h => by simp at h; subst h; exact Int.le_refl _
  | y :: l, m, x, h => by
    rw [bestMax]
    have ih := bestMax_ge f l (if f m.f0 < f y.f0 then y else m)
    have h0 := ih _ (List.mem_cons_self ..)
    rcases List.mem_cons.1 h with e | e
    · subst e; split at h0 <;> (rename_i hc; first | rw [if_pos hc] | rw [if_neg hc]) <;> omega
    rcases List.mem_cons.1 e with e | e
    · subst e; split at h0 <;> (rename_i hc; first | rw [if_pos hc] | rw [if_neg hc]) <;> omega
    · exact ih x (List.mem_cons_of_mem _ e)
theorem bestMin_congr {f g : Int → Int} : ∀ (l : List Mem) (m : Mem), (∀ x ∈ m :: l, f x.f0 = g x.f0) → bestMin f m l = bestMin g m l
  | [], m, _ => rfl
  | x :: l, m, h => by
    have h1 := h m (by simp)
    have h2 := h x (by simp)
    rw [bestMin, bestMin, h1, h2]
    apply bestMin_congr l
    intro y hy
    rcases List.mem_cons.1 hy with e | e
    · subst e; split
      · exact h2
      · exact h1
    · exact h y (List.mem_cons_of_mem _ (List.mem_cons_of_mem _ e))
theorem bestMax_congr {f g : Int → Int} : ∀ (l : List Mem) (m : Mem), (∀ x ∈ m :: l, f x.f0 = g x.f0) → bestMax f m l = bestMax g m l
  | [], m, _ => rfl
  | x :: l, m, h => by
    have h1 := h m (by simp)
    have h2 := h x (by simp)
    rw [bestMax, bestMax, h1, h2]
    apply bestMax_congr l
    intro y hy
    rcases List.mem_cons.1 hy with e | e
    · subst e; split
      · exact h2
      · exact h1
    · exact h y (List.mem_cons_of_mem _ (List.mem_cons_of_mem _ e))
theorem names_pos {lv : Int} {ms : List Mem} {ps : List Pla} (h : RightP lv ms ps) {m : Mem} (hm : m ∈ ms) : ¬ m.f0 = 0 := by
  have := (rise_mem h.rise m hm).1
  omega
theorem bal_names {lv : Int} {ms : List Mem} {ps : List Pla} (h : RightP lv ms ps) : balToR ms ps = balTo ms ps ∧ balFromR ms ps = balFrom ms ps ∧ hasM ms (balTo ms ps) = true ∧ hasM ms (balFrom ms ps) = true ∧
    (∀ m ∈ ms, loadC ps (balTo ms ps) ≤ loadC ps m.f0) ∧ (∀ m ∈ ms, loadC ps m.f0 ≤ loadC ps (balFrom ms ps)) := by
  have h1 := h.m1
  have hq : ∀ m ∈ ms, loadC ps m.f0 = loadsC ps m.f0 := fun m hm => loadC_eq (names_pos h hm) ps
  cases ms with
  | nil => simp at h1
  | cons m l =>
    have e1 := bestMin_congr l m hq
    have e2 := bestMax_congr l m hq
    have m1 := bestMin_mem (loadsC ps) l m
    have m2 := bestMax_mem (loadsC ps) l m
    have l1 := bestMin_le (loadC ps) l m
    have l2 := bestMax_ge (loadC ps) l m
    rw [e1] at l1
    rw [e2] at l2
    refine ⟨?_, ?_, (hasM_iff _ _).2 ⟨_, m1, rfl⟩, (hasM_iff _ _).2 ⟨_, m2, rfl⟩, l1, l2⟩
    · show (bestMin (loadC ps) m l).f0 = _; rw [e1]; rfl
    · show (bestMax (loadC ps) m l).f0 = _; rw [e2]; rfl
theorem hasM_pos {lv : Int} {ms : List Mem} {ps : List Pla} (h : RightP lv ms ps) {n : Int} (hn : hasM ms n = true) : ¬ n = 0 := by
  obtain ⟨m, hm, e⟩ := (hasM_iff _ _).1 hn
  rw [← e]; exact names_pos h hm
theorem balanceR_eq (lv : Int) (ms : List Mem) (ps : List Pla) : balanceR lv ms ps = balanceC lv ms ps := by
  unfold balanceR balanceC
  cases hr : rightC lv ms ps
  · rfl
  · have h := (right_iff _ _ _).1 hr
    obtain ⟨e1, e2, n1, n2, _⟩ := bal_names h
    rw [e1, e2, loadC_eq (hasM_pos h n1), loadC_eq (hasM_pos h n2)]
    unfold balAt
    by_cases q1 : loadsC ps (balFrom ms ps) - loadsC ps (balTo ms ps) < 2
    · by_cases q2 : idx (stillP (balFrom ms ps)) ps 0 < 0
      · simp [q1, q2]
      · simp [q1, q2]
    · by_cases q2 : idx (stillP (balFrom ms ps)) ps 0 < 0
      · simp [q1, q2]
      · simp [q1, q2]
theorem idx_found {α : Type} (p : α → Bool) : ∀ (l : List α) (n : Nat), 0 ≤ idx p l n → ∃ i : Nat, idx p l n = ((n + i : Nat) : Int) ∧ ∃ h : i < l.length, p l[i] = true
  | [], n, h => by rw [idx] at h; omega
  | x :: l, n, h => by
    rw [idx] at h ⊢
    by_cases hx : p x = true
    · rw [if_pos hx]; exact ⟨0, rfl, by simp, by simpa using hx⟩
    · rw [if_neg hx] at h ⊢
      obtain ⟨i, e, hi, hp⟩ := idx_found p l (n + 1) h
      exact ⟨i + 1, by rw [e]; congr 1; omega, by simpa using hi, by simpa using hp⟩
theorem count_set {α : Type} (p : α → Bool) : ∀ (l : List α) (i : Nat) (h : i < l.length) (q : α), ((l.set i q).filter p).length + (if p l[i] = true then 1 else 0) = (l.filter p).length + (if p q = true then 1 else 0)
  | x :: l, 0, _, q => by
    simp only [List.set_cons_zero, List.getElem_cons_zero, List.filter_cons]
    by_cases h1 : p x = true <;> by_cases h2 : p q = true <;> simp [h1, h2]
  | x :: l, i + 1, h, q => by
    have ih := count_set p l i (by simpa using h) q
    simp only [List.set_cons_succ, List.getElem_cons_succ, List.filter_cons]
    by_cases h1 : p x = true
    · simp only [h1, if_true, List.length_cons]; omega
    · simp only [h1, if_false, Bool.false_eq_true]; exact ih
theorem loadC_set (ps : List Pla) {s : Int} (h0 : 0 ≤ s) (h1 : s < ps.length) (q : Pla) (n : Int) : loadC (ps.set s.toNat q) n + (if hasLoad n (rd_T48 ps s) = true then 1 else 0) = loadC ps n + (if hasLoad n q = true then 1 else 0) := by
  have := count_set (hasLoad n) ps s.toNat (by omega) q
  rw [← rdP_get ps h0 h1] at this
  unfold loadC
  split at this <;> split at this <;> simp_all <;> omega
/-- What Balance tells, if it tells a move. -/
structure Told (c : Ctl) (s t : Int) : Prop where
  s0 : 0 ≤ s
  s1 : s < c.2.2.length
  own : (rd_T48 c.2.2 s).f0 = balFrom c.2.1 c.2.2
  still : (rd_T48 c.2.2 s).f2 = 0
  tgt : t = balTo c.2.1 c.2.2
  ne : ¬ balFrom c.2.1 c.2.2 = t
  has : hasM c.2.1 t = true
  two : loadC c.2.2 (balFrom c.2.1 c.2.2) - loadC c.2.2 t ≥ 2
theorem told {c : Ctl} (h : RightP c.1 c.2.1 c.2.2) : ((balanceC c.1 c.2.1 c.2.2).2.2 = true → Told c (balanceC c.1 c.2.1 c.2.2).1 (balanceC c.1 c.2.1 c.2.2).2.1) ∧ ((balanceC c.1 c.2.1 c.2.2).2.2 = false → (balanceC c.1 c.2.1 c.2.2).1 = 0 ∧ (balanceC c.1 c.2.1 c.2.2).2.1 = 0 ∧ (balAt c.2.1 c.2.2 < 0 ∨ loadC c.2.2 (balFrom c.2.1 c.2.2) - loadC c.2.2 (balTo c.2.1 c.2.2) < 2)) := by
  obtain ⟨e1, e2, n1, n2, _⟩ := bal_names h
  unfold balanceC
  rw [(right_iff _ _ _).2 h]
  rw [← loadC_eq (hasM_pos h n1), ← loadC_eq (hasM_pos h n2)]
  by_cases q2 : balAt c.2.1 c.2.2 < 0
  · simp [q2]
  by_cases q1 : loadC c.2.2 (balFrom c.2.1 c.2.2) - loadC c.2.2 (balTo c.2.1 c.2.2) < 2
  · simp [q1, q2]
  · refine ⟨fun _ => ?_, fun h2 => ?_⟩
    · simp only [q1, q2, if_false, Bool.true_eq_false]
      obtain ⟨i, ei, hi, hp⟩ := idx_found (stillP (balFrom c.2.1 c.2.2)) c.2.2 0 (by unfold balAt at q2; omega)
      have eb : balAt c.2.1 c.2.2 = (i : Int) := by unfold balAt; rw [ei]; simp
      rw [eb]
      have er : rd_T48 c.2.2 (i : Int) = c.2.2[i] := rdP_get c.2.2 (by omega) (by omega)
      unfold stillP at hp
      rw [Bool.and_eq_true, beq_iff_eq, beq_iff_eq] at hp
      refine ⟨by omega, by omega, by rw [er]; exact hp.1, by rw [er]; exact hp.2, rfl, fun e => ?_, n1, by omega⟩
      rw [e] at q1; omega
    · simp [q1, q2] at h2
structure EvenLaw (c : Ctl) (s t : Int) (p : Pla) (a d : Int × Ctl) : Prop where
  s0 : 0 ≤ s
  s1 : s < c.2.2.length
  still : p.f2 = 0
  ne : ¬ p.f0 = t
  two : loadC c.2.2 p.f0 - loadC c.2.2 t ≥ 2
  ea : a.1 = 0
  ed : d.1 = 0
  same : d.2 = c
  l1 : loadC a.2.2.2 p.f0 = loadC c.2.2 p.f0 - 1
  l2 : loadC a.2.2.2 t = loadC c.2.2 t + 1
theorem plan_told {k : Nat} {c : Ctl} (g : Good k c) (hk : k ≤ 1000) {s t : Int} (ht : Told c s t) : planC s t c.1 c.2.1 c.2.2 = (0, c.1, c.2.1, c.2.2.set s.toNat ⟨(rd_T48 c.2.2 s).f0, (rd_T48 c.2.2 s).f1, t⟩) := by
  have h5 := g.epochs _ (rd_mem ht.s0 ht.s1)
  exact plan_ok g.right ht.s0 ht.s1 ht.has ht.still (by rw [ht.own]; exact ht.ne) (by omega)
theorem even_law {k : Nat} {c : Ctl} (g : Good k c) (hk : k ≤ 1000) {s t : Int} (ht : Told c s t) (a d : Int × Ctl) (ea : a = planC s t c.1 c.2.1 c.2.2) (ed : d = cancelC s a.2.1 a.2.2.1 a.2.2.2) : EvenLaw c s t (rd_T48 c.2.2 s) a d := by
  have s0 := ht.s0
  have s1 := ht.s1
  have hne : ¬ (rd_T48 c.2.2 s).f0 = t := by rw [ht.own]; exact ht.ne
  have ml := moves_law g hk s0 s1 ht.has a (commitC s a.2.1 a.2.2.1 a.2.2.2) d ea rfl ed
  obtain ⟨y1, _, y2, _, _, y3, _⟩ := ml.yes ht.still hne
  have hfrom := hasM_pos g.right (bal_names g.right).2.2.2.1
  have hto := hasM_pos g.right ht.has
  rw [plan_told g hk ht] at ea
  have two := ht.two
  rw [← ht.own] at two hfrom
  have e2 : (rd_T48 c.2.2 s).f2 = 0 := ht.still
  have hl1 := loadC_set c.2.2 s0 s1 ⟨(rd_T48 c.2.2 s).f0, (rd_T48 c.2.2 s).f1, t⟩ (rd_T48 c.2.2 s).f0
  have hl2 := loadC_set c.2.2 s0 s1 ⟨(rd_T48 c.2.2 s).f0, (rd_T48 c.2.2 s).f1, t⟩ t
  have b1 : hasLoad (rd_T48 c.2.2 s).f0 (rd_T48 c.2.2 s) = true := by rw [hasLoad_eq hfrom]; simp [own1, or2, e2]
  have b2 : hasLoad (rd_T48 c.2.2 s).f0 ⟨(rd_T48 c.2.2 s).f0, (rd_T48 c.2.2 s).f1, t⟩ = false := by rw [hasLoad_eq hfrom]; simp [own1, or2, hto]; exact fun e => hne e.symm
  have b3 : hasLoad t (rd_T48 c.2.2 s) = false := by rw [hasLoad_eq hto]; simp [own1, or2, e2]; exact hne
  have b4 : hasLoad t ⟨(rd_T48 c.2.2 s).f0, (rd_T48 c.2.2 s).f1, t⟩ = true := by rw [hasLoad_eq hto]; simp [own1, or2, hto]
  rw [b1, b2] at hl1
  rw [b3, b4] at hl2
  refine ⟨s0, s1, ht.still, hne, two, y1, y2, y3, ?_, ?_⟩
  · rw [ea]; simp at hl1 ⊢; omega
  · rw [ea]; simp at hl2 ⊢; omega
end Go.Proofs.Ytdbgpakmbjhmgaa.H
