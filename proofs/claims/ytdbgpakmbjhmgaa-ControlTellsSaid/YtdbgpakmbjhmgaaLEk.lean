/- Plain law of ControlBalances: each move brings the loads nearer; there are at most as many as there are places. -/
import Derived.Test.YtdbgpakmbjhmgaaLEh
namespace Go.Proofs.Ytdbgpakmbjhmgaa.H
open Go.RowKit Go.Proofs.YtdbgpakmbjhmgaaW.PrintWords Go.Proofs.YtdbgpakmbjhmgaaW.PrintLast Go.Proofs.YtdbgpakmbjhmgaaW.PrintMore
set_option linter.unusedVariables false
set_option linter.unusedSimpArgs false

def sumN (F : Int → Nat) : List Mem → Nat
  | [] => 0
  | m :: ms => F m.f0 + sumN F ms
def Apart2 (ms : List Mem) : Prop := ms.Pairwise (fun a b => ¬ a.f0 = b.f0)
theorem sum_same {F F' : Int → Nat} : ∀ {ms : List Mem}, (∀ m ∈ ms, F' m.f0 = F m.f0) → sumN F' ms = sumN F ms
  | [], _ => rfl
  | m :: ms, h => by
    rw [sumN, sumN, h m (by simp), sum_same (fun m' hm' => h m' (List.mem_cons_of_mem _ hm'))]
theorem sum_one {F F' : Int → Nat} {x : Int} (hF : ∀ n, ¬ n = x → F' n = F n) : ∀ {ms : List Mem}, Apart2 ms → (∃ m ∈ ms, m.f0 = x) → sumN F' ms + F x = sumN F ms + F' x
  | [], _, h => by obtain ⟨m, hm, _⟩ := h; cases hm
  | m :: ms, ha, h => by
    obtain ⟨h1, h2⟩ := List.pairwise_cons.1 ha
    by_cases hx : m.f0 = x
    · have e := sum_same (F := F) (F' := F') (ms := ms) (fun m' hm' => hF _ (fun e => h1 m' hm' (by rw [hx, e])))
      rw [sumN, sumN, e, hx]; omega
    · have h3 : ∃ m ∈ ms, m.f0 = x := by
        obtain ⟨m', hm', e⟩ := h
        rcases List.mem_cons.1 hm' with e2 | e2
        · subst e2; exact absurd e hx
        · exact ⟨m', e2, e⟩
      have ih := sum_one hF h2 h3
      rw [sumN, sumN, hF _ hx]; omega
theorem sum_two {F F' : Int → Nat} {x y : Int} (hxy : ¬ x = y) (hF : ∀ n, ¬ n = x → ¬ n = y → F' n = F n) {ms : List Mem} (ha : Apart2 ms) (hx : ∃ m ∈ ms, m.f0 = x) (hy : ∃ m ∈ ms, m.f0 = y) :
    sumN F' ms + F x + F y = sumN F ms + F' x + F' y := by
  have h1 := sum_one (F := F) (F' := fun n => if n = x then F' x else F n) (x := x) (fun n hn => if_neg hn) ha hx
  have h2 := sum_one (F := fun n => if n = x then F' x else F n) (F' := F') (x := y) (fun n hn => by
    by_cases h : n = x
    · subst h; simp
    · simp only [if_neg h]; exact hF n h hn) ha hy
  simp only [if_true, if_neg (show ¬ y = x from fun e => hxy e.symm)] at h1 h2
  omega
theorem sum_le {F : Int → Nat} {b : Nat} : ∀ {ms : List Mem}, (∀ m ∈ ms, F m.f0 ≤ b) → sumN F ms ≤ b * ms.length
  | [], _ => by simp [sumN]
  | m :: ms, h => by
    have h1 := h m (by simp)
    have h2 := sum_le (fun m' hm' => h m' (List.mem_cons_of_mem _ hm'))
    rw [sumN, List.length_cons, Nat.mul_add]; omega
theorem sum_lt {F : Int → Nat} {b : Nat} : ∀ {ms : List Mem}, (∀ m ∈ ms, F m.f0 ≤ b) → (∃ m ∈ ms, F m.f0 < b) → sumN F ms < b * ms.length
  | [], _, h => by obtain ⟨m, hm, _⟩ := h; cases hm
  | m :: ms, h, hx => by
    have h1 := h m (by simp)
    have h2 := sum_le (ms := ms) (fun m' hm' => h m' (List.mem_cons_of_mem _ hm'))
    rw [sumN, List.length_cons, Nat.mul_add]
    obtain ⟨m', hm', e⟩ := hx
    rcases List.mem_cons.1 hm' with e2 | e2
    · subst e2; omega
    · have := sum_lt (fun m'' hm'' => h m'' (List.mem_cons_of_mem _ hm'')) ⟨m', e2, e⟩
      omega
theorem sum_ge {F : Int → Nat} {b : Nat} : ∀ {ms : List Mem}, (∀ m ∈ ms, b ≤ F m.f0) → b * ms.length ≤ sumN F ms
  | [], _ => by simp [sumN]
  | m :: ms, h => by
    have h1 := h m (by simp)
    have h2 := sum_ge (ms := ms) (fun m' hm' => h m' (List.mem_cons_of_mem _ hm'))
    rw [sumN, List.length_cons, Nat.mul_add]; omega
theorem sum_mono {F F' : Int → Nat} : ∀ {ms : List Mem}, (∀ m ∈ ms, F' m.f0 ≤ F m.f0) → sumN F' ms ≤ sumN F ms
  | [], _ => Nat.le_refl _
  | m :: ms, h => by
    have h1 := h m (by simp)
    have h2 := sum_mono (ms := ms) (fun m' hm' => h m' (List.mem_cons_of_mem _ hm'))
    rw [sumN, sumN]; omega
theorem sum_zero {F : Int → Nat} : ∀ {ms : List Mem}, (∀ m ∈ ms, F m.f0 = 0) → sumN F ms = 0
  | [], _ => rfl
  | m :: ms, h => by rw [sumN, h m (by simp), sum_zero (fun m' hm' => h m' (List.mem_cons_of_mem _ hm'))]
/-- How far the loads are from even. -/
def far (a : Nat) (F : Int → Nat) (ms : List Mem) : Nat := max (sumN (fun n => a - F n) ms) (sumN (fun n => F n - (a + 1)) ms)
theorem far_less {F F' : Int → Nat} {ms : List Mem} {x y : Int} {n : Nat} (ha : Apart2 ms) (hx : ∃ m ∈ ms, m.f0 = x) (hy : ∃ m ∈ ms, m.f0 = y) (hF : ∀ n, ¬ n = x → ¬ n = y → F' n = F n)
    (h1 : F' x + 1 = F x) (h2 : F' y = F y + 1) (h3 : F y + 2 ≤ F x) (hmax : ∀ m ∈ ms, F m.f0 ≤ F x) (hmin : ∀ m ∈ ms, F y ≤ F m.f0) (hs : sumN F ms = n) : far (n / ms.length) F' ms + 1 ≤ far (n / ms.length) F ms := by
  have hl : 0 < ms.length := by obtain ⟨m, hm, _⟩ := hx; exact List.length_pos_of_mem hm
  have hxy : ¬ x = y := fun e => by rw [e] at h3; omega
  generalize hq : n / ms.length = a
  have q1 : a * ms.length ≤ n := by rw [← hq]; exact Nat.div_mul_le_self _ _
  have q2 : n < (a + 1) * ms.length := by
    have := Nat.div_add_mod n ms.length
    have h4 := Nat.mod_lt n hl
    rw [hq] at this
    rw [Nat.add_mul, Nat.one_mul, Nat.mul_comm]; omega
  have e1 := sum_two (F := fun n => a - F n) (F' := fun n => a - F' n) hxy (fun n p q => by simp only [hF n p q]) ha hx hy
  have e2 := sum_two (F := fun n => F n - (a + 1)) (F' := fun n => F' n - (a + 1)) hxy (fun n p q => by simp only [hF n p q]) ha hx hy
  unfold far
  by_cases hc : F y < a
  · have hb : a + 1 ≤ F x := by
      by_cases hb : a + 1 ≤ F x
      · exact hb
      · exfalso
        obtain ⟨m, hm, e⟩ := hy
        have := sum_lt (F := F) (b := a) (ms := ms) (fun m hm => by have := hmax m hm; omega) ⟨m, hm, by rw [e]; exact hc⟩
        omega
    by_cases hd : a + 2 ≤ F x
    · omega
    · have hz : sumN (fun n => F n - (a + 1)) ms = 0 := sum_zero (fun m hm => by have := hmax m hm; omega)
      omega
  · have hb : F y = a := by
      by_cases hb : F y = a
      · exact hb
      · exfalso
        have := sum_ge (F := F) (b := a + 1) (ms := ms) (fun m hm => by have := hmin m hm; omega)
        omega
    have hz : sumN (fun n => a - F n) ms = 0 := sum_zero (fun m hm => by have := hmin m hm; omega)
    omega
def ldN (ps : List Pla) (n : Int) : Nat := (ps.filter (hasLoad n)).length
theorem ldN_eq (ps : List Pla) (n : Int) : loadC ps n = (ldN ps n : Int) := rfl
def StillAll (ps : List Pla) : Prop := ∀ p ∈ ps, p.f2 = 0
theorem sum_loads {ms : List Mem} (ha : Apart2 ms) (hp : ∀ m ∈ ms, ¬ m.f0 = 0) : ∀ {ps : List Pla}, StillAll ps → (∀ p ∈ ps, hasM ms p.f0 = true) → sumN (ldN ps) ms = ps.length
  | [], _, _ => sum_zero (fun m hm => rfl)
  | p :: ps, hs, hm => by
    have ih := sum_loads ha hp (ps := ps) (fun q hq => hs q (List.mem_cons_of_mem _ hq)) (fun q hq => hm q (List.mem_cons_of_mem _ hq))
    have hx := (hasM_iff _ _).1 (hm p (by simp))
    have h2 := hs p (by simp)
    have hne : ¬ p.f0 = 0 := by obtain ⟨m, hmm, e⟩ := hx; rw [← e]; exact hp m hmm
    have e : ∀ n, ¬ n = 0 → ldN (p :: ps) n = ldN ps n + if n = p.f0 then 1 else 0 := fun n hn => by
      unfold ldN
      have hb : hasLoad n p = decide (n = p.f0) := by
        rw [hasLoad_eq hn]
        have : own1 p = p.f0 := by unfold own1 or2; rw [if_pos h2]
        rw [this, Bool.eq_iff_iff]; simp; exact ⟨fun h => h.symm, fun h => h.symm⟩
      rw [List.filter_cons, hb]
      by_cases hq : n = p.f0
      · simp [hq]
      · simp [hq]
    have e2 := sum_same (F := fun n => ldN ps n + if n = p.f0 then 1 else 0) (F' := ldN (p :: ps)) (ms := ms) (fun m hm => e _ (hp m hm))
    have e3 := sum_one (F := ldN ps) (F' := fun n => ldN ps n + if n = p.f0 then 1 else 0) (x := p.f0) (fun n hn => by simp [hn]) ha hx
    simp only [if_true] at e3
    rw [e2, List.length_cons]; omega
theorem rise_apart {lv last : Int} {ms : List Mem} (h : Rise lv ms last) : Apart2 ms := (rise_pair h).imp (fun hab e => by omega)
/-- Behind i moves. -/
structure Moved (c0 : Ctl) (i : Nat) (c : Ctl) : Prop where
  good : Good (30 + i) c
  still : StillAll c.2.2
  len : c.2.2.length = c0.2.2.length
  left : i + far (c.2.2.length / c.2.1.length) (ldN c.2.2) c.2.1 ≤ c.2.2.length
theorem far_bound {a : Nat} {F : Int → Nat} {ms : List Mem} {n : Nat} (h : sumN F ms = n) (ha : a * ms.length ≤ n) : far a F ms ≤ n := by
  have h1 := sum_le (F := fun n => a - F n) (b := a) (ms := ms) (fun m _ => Nat.sub_le _ _)
  have h2 := sum_mono (F := F) (F' := fun n => F n - (a + 1)) (ms := ms) (fun m _ => Nat.sub_le _ _)
  unfold far
  omega
theorem Moved.sum {c0 c : Ctl} {i : Nat} (h : Moved c0 i c) : sumN (ldN c.2.2) c.2.1 = c.2.2.length :=
  sum_loads (rise_apart h.good.right.rise) (fun m hm => names_pos h.good.right hm) h.still (fun p hp => (h.good.right.ok p hp).1)
def restC (c : Ctl) : Ctl := (c.1, c.2.1, c.2.2.map (fun p => ⟨p.f0, p.f1, 0⟩))
theorem moved_start {c : Ctl} (h : Good 30 c) : Moved (restC c) 0 (restC c) := by
  have hg : Good 30 (restC c) := by
    refine ⟨⟨h.right.level, h.right.rise, h.right.m1, h.right.m8, by show 1 ≤ (c.2.2.map _).length; rw [List.length_map]; exact h.right.p1, by show (c.2.2.map _).length ≤ 8; rw [List.length_map]; exact h.right.p8, fun p hp => ?_⟩, h.names, fun p hp => ?_⟩
    · obtain ⟨q, hq, rfl⟩ := List.mem_map.1 hp
      obtain ⟨g1, g2, g3, _⟩ := h.right.ok q hq
      exact ⟨g1, g2, g3, Or.inl rfl⟩
    · obtain ⟨q, hq, rfl⟩ := List.mem_map.1 hp
      exact (h.epochs q hq :)
  have hst : StillAll (restC c).2.2 := fun p hp => by
    obtain ⟨q, hq, rfl⟩ := List.mem_map.1 hp
    rfl
  have hs : sumN (ldN (restC c).2.2) (restC c).2.1 = (restC c).2.2.length := sum_loads (rise_apart hg.right.rise) (fun m hm => names_pos hg.right hm) hst (fun p hp => (hg.right.ok p hp).1)
  refine ⟨hg, hst, rfl, ?_⟩
  have := far_bound hs (Nat.div_mul_le_self (restC c).2.2.length (restC c).2.1.length)
  omega
structure StepLaw (c0 : Ctl) (i : Nat) (c : Ctl) (p d : Int × Ctl) : Prop where
  ep : p.1 = 0
  ed : d.1 = 0
  sp : Short p.2
  sd : Short d.2
  more : i < c0.2.2.length
  next : Moved c0 (i + 1) d.2
theorem step_law {c0 c : Ctl} {i : Nat} (h : Moved c0 i c) {s t : Int} (ht : Told c s t) (p d : Int × Ctl) (ep : p = planC s t c.1 c.2.1 c.2.2) (ed : d = commitC s p.2.1 p.2.2.1 p.2.2.2) : StepLaw c0 i c p d := by
  have hi : i ≤ 8 := by have := h.left; have := h.good.right.p8; omega
  have gp : Good (30 + i) p.2 := by rw [ep]; exact good_plan h.good ht.s0
  have gd : Good (30 + (i + 1)) d.2 := by rw [ed]; exact good_commit gp ht.s0
  have s0 := ht.s0
  have s1 := ht.s1
  have hne : ¬ (rd_T48 c.2.2 s).f0 = t := by rw [ht.own]; exact ht.ne
  have hfrom := hasM_pos h.good.right (bal_names h.good.right).2.2.2.1
  have hto := hasM_pos h.good.right ht.has
  have h5 := h.good.epochs _ (rd_mem s0 s1)
  rw [plan_told h.good (by omega) ht] at ep
  subst ep
  have hs2 : s < ((c.2.2.set s.toNat ⟨(rd_T48 c.2.2 s).f0, (rd_T48 c.2.2 s).f1, t⟩).length : Int) := by rw [List.length_set]; exact s1
  have er : rd_T48 (c.2.2.set s.toNat ⟨(rd_T48 c.2.2 s).f0, (rd_T48 c.2.2 s).f1, t⟩) s = ⟨(rd_T48 c.2.2 s).f0, (rd_T48 c.2.2 s).f1, t⟩ := by
    have := rdP_set c.2.2 s0 s1 ⟨(rd_T48 c.2.2 s).f0, (rd_T48 c.2.2 s).f1, t⟩ s.toNat
    rw [show ((s.toNat : Nat) : Int) = s from by omega, if_pos rfl] at this
    exact this
  have ec := commit_ok gp.right s0 hs2 (by rw [er]; exact hto) (by rw [er]; show (rd_T48 c.2.2 s).f1 < _; omega)
  simp only [er, List.set_set] at ec
  rw [ec] at ed
  subst ed
  have e2 : (rd_T48 c.2.2 s).f2 = 0 := ht.still
  have hst : StillAll (c.2.2.set s.toNat ⟨t, (rd_T48 c.2.2 s).f1 + 1, 0⟩) := fun q hq => by
    rcases List.mem_or_eq_of_mem_set hq with g | g
    · exact h.still q g
    · rw [g]
  have two := ht.two
  rw [← ht.own] at two hfrom
  -- the loads
  have hl := fun n => loadC_set c.2.2 s0 s1 ⟨t, (rd_T48 c.2.2 s).f1 + 1, 0⟩ n
  have b : ∀ n, ¬ n = 0 → (hasLoad n (rd_T48 c.2.2 s) = decide (n = (rd_T48 c.2.2 s).f0)) ∧ hasLoad n (⟨t, (rd_T48 c.2.2 s).f1 + 1, 0⟩ : Pla) = decide (n = t) := fun n hn => by
    rw [hasLoad_eq hn, hasLoad_eq hn]
    constructor
    · have : own1 (rd_T48 c.2.2 s) = (rd_T48 c.2.2 s).f0 := by unfold own1 or2; rw [if_pos e2]
      rw [this, Bool.eq_iff_iff]; simp; exact ⟨fun h => h.symm, fun h => h.symm⟩
    · show (t == n) = _
      rw [Bool.eq_iff_iff]; simp; exact ⟨fun h => h.symm, fun h => h.symm⟩
  have hname : ∀ n, hasM c.2.1 n = true → ¬ n = 0 := fun n hn => hasM_pos h.good.right hn
  have hfm : hasM c.2.1 (rd_T48 c.2.2 s).f0 = true := by rw [ht.own]; exact (bal_names h.good.right).2.2.2.1
  have l1 := hl (rd_T48 c.2.2 s).f0
  have l2 := hl t
  rw [(b _ hfrom).1, (b _ hfrom).2, decide_eq_true rfl, decide_eq_false hne] at l1
  rw [(b _ hto).1, (b _ hto).2, decide_eq_true rfl, decide_eq_false (fun e => hne e.symm)] at l2
  simp only [if_true, Bool.false_eq_true, if_false] at l1 l2
  simp only [ldN_eq] at l1 l2 two
  have hmm := (bal_names h.good.right).2.2.2.2
  have hF : ∀ n, ¬ n = (rd_T48 c.2.2 s).f0 → ¬ n = t → (fun n => if n = 0 then ldN c.2.2 n else ldN (c.2.2.set s.toNat ⟨t, (rd_T48 c.2.2 s).f1 + 1, 0⟩) n) n = ldN c.2.2 n := fun n q1 q2 => by
    by_cases hz : n = 0
    · simp [hz]
    · have l3 := hl n
      rw [(b n hz).1, (b n hz).2, decide_eq_false q1, decide_eq_false q2] at l3
      simp only [Bool.false_eq_true, if_false, ldN_eq] at l3
      simp only [if_neg hz]
      omega
  have hless := far_less (F := ldN c.2.2) (F' := fun n => if n = 0 then ldN c.2.2 n else ldN (c.2.2.set s.toNat ⟨t, (rd_T48 c.2.2 s).f1 + 1, 0⟩) n) (ms := c.2.1) (x := (rd_T48 c.2.2 s).f0) (y := t) (n := c.2.2.length)
    (rise_apart h.good.right.rise) ((hasM_iff _ _).1 hfm) ((hasM_iff _ _).1 ht.has) hF (by simp only [if_neg hfrom]; omega) (by simp only [if_neg hto]; omega) (by omega)
    (fun m hm => by have := hmm.2 m hm; rw [← ht.own] at this; simp only [ldN_eq] at this; omega) (fun m hm => by have := hmm.1 m hm; rw [← ht.tgt] at this; simp only [ldN_eq] at this; omega) h.sum
  have hfeq : ∀ a, far a (fun n => if n = 0 then ldN c.2.2 n else ldN (c.2.2.set s.toNat ⟨t, (rd_T48 c.2.2 s).f1 + 1, 0⟩) n) c.2.1 = far a (ldN (c.2.2.set s.toNat ⟨t, (rd_T48 c.2.2 s).f1 + 1, 0⟩)) c.2.1 := fun a => by
    generalize ldN (c.2.2.set s.toNat ⟨t, (rd_T48 c.2.2 s).f1 + 1, 0⟩) = G
    have g1 : sumN (fun n => a - (if n = 0 then ldN c.2.2 n else G n)) c.2.1 = sumN (fun n => a - G n) c.2.1 := sum_same (fun m hm => by show a - (if m.f0 = 0 then _ else _) = _; rw [if_neg (names_pos h.good.right hm)])
    have g2 : sumN (fun n => (if n = 0 then ldN c.2.2 n else G n) - (a + 1)) c.2.1 = sumN (fun n => G n - (a + 1)) c.2.1 := sum_same (fun m hm => by show (if m.f0 = 0 then _ else _) - _ = _; rw [if_neg (names_pos h.good.right hm)])
    unfold far
    rw [g1, g2]
  rw [hfeq] at hless
  have hleft := h.left
  have hlen := h.len
  refine ⟨rfl, rfl, gp.short, gd.short, by omega, ⟨gd, hst, by show (List.set _ _ _).length = _; rw [List.length_set]; exact hlen, ?_⟩⟩
  show i + 1 + far ((c.2.2.set s.toNat _).length / c.2.1.length) (ldN (c.2.2.set s.toNat _)) c.2.1 ≤ (c.2.2.set s.toNat _).length
  rw [List.length_set]
  omega
def loN (F : Int → Int) (ms : List Mem) : Int := ms.foldl (fun a m => min a (F m.f0)) 9
def hiN (F : Int → Int) (ms : List Mem) : Int := ms.foldl (fun a m => max a (F m.f0)) 0
theorem lo_ge {F : Int → Int} {b : Int} : ∀ {ms : List Mem} {a : Int}, b ≤ a → (∀ m ∈ ms, b ≤ F m.f0) → b ≤ ms.foldl (fun a m => min a (F m.f0)) a
  | [], a, h, _ => h
  | m :: ms, a, h, hm => by
    rw [List.foldl_cons]
    exact lo_ge (by have := hm m (by simp); omega) (fun m' hm' => hm m' (List.mem_cons_of_mem _ hm'))
theorem hi_le {F : Int → Int} {b : Int} : ∀ {ms : List Mem} {a : Int}, a ≤ b → (∀ m ∈ ms, F m.f0 ≤ b) → ms.foldl (fun a m => max a (F m.f0)) a ≤ b
  | [], a, h, _ => h
  | m :: ms, a, h, hm => by
    rw [List.foldl_cons]
    exact hi_le (by have := hm m (by simp); omega) (fun m' hm' => hm m' (List.mem_cons_of_mem _ hm'))
/-- Where Balance tells no move, the loads are at most one apart. -/
theorem even_out {c0 c : Ctl} {i : Nat} (h : Moved c0 i c) (hb : (balanceC c.1 c.2.1 c.2.2).2.2 = false) : hiN (loadC c.2.2) c.2.1 - loN (loadC c.2.2) c.2.1 ≤ 1 := by
  obtain ⟨e1, e2, n1, n2, hmin, hmax⟩ := bal_names h.good.right
  have hd : loadC c.2.2 (balFrom c.2.1 c.2.2) - loadC c.2.2 (balTo c.2.1 c.2.2) < 2 := by
    rcases ((told h.good.right).2 hb).2.2 with q | q
    · by_cases hq : loadC c.2.2 (balFrom c.2.1 c.2.2) - loadC c.2.2 (balTo c.2.1 c.2.2) < 2
      · exact hq
      · exfalso
        have l0 := (loadC_le c.2.2 (balTo c.2.1 c.2.2)).1
        have hpos : 0 < (c.2.2.filter (hasLoad (balFrom c.2.1 c.2.2))).length := by unfold loadC at hq l0; omega
        obtain ⟨p, hp⟩ := List.exists_mem_of_length_pos hpos
        obtain ⟨hp1, hp2⟩ := List.mem_filter.1 hp
        have hz := hasM_pos h.good.right n2
        rw [hasLoad_eq hz] at hp2
        have hs := h.still p hp1
        have ho : own1 p = p.f0 := by unfold own1 or2; rw [if_pos hs]
        rw [ho] at hp2
        have ha := idx_any (stillP (balFrom c.2.1 c.2.2)) c.2.2 0
        have hany : c.2.2.any (stillP (balFrom c.2.1 c.2.2)) = true := List.any_eq_true.2 ⟨p, hp1, by unfold stillP; rw [hp2, hs]; rfl⟩
        rw [hany] at ha
        have := of_decide_eq_true ha
        unfold balAt at q
        omega
    · exact q
  have l0 := (loadC_le c.2.2 (balFrom c.2.1 c.2.2)).1
  have l9 := (loadC_le c.2.2 (balTo c.2.1 c.2.2)).2
  have h8 := h.good.right.p8
  have g1 := lo_ge (F := loadC c.2.2) (b := loadC c.2.2 (balTo c.2.1 c.2.2)) (ms := c.2.1) (a := 9) (by omega) hmin
  have g2 := hi_le (F := loadC c.2.2) (b := loadC c.2.2 (balFrom c.2.1 c.2.2)) (ms := c.2.1) (a := 0) (by omega) hmax
  unfold hiN loN
  omega
end Go.Proofs.Ytdbgpakmbjhmgaa.H
