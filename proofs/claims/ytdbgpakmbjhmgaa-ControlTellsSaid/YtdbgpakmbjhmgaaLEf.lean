/- Plain laws of ControlOnce, ControlGate, ControlMoves. -/
import Derived.Test.YtdbgpakmbjhmgaaK6
namespace Go.Proofs.Ytdbgpakmbjhmgaa.H
open Go.RowKit Go.Proofs.YtdbgpakmbjhmgaaW.PrintWords Go.Proofs.YtdbgpakmbjhmgaaW.PrintLast Go.Proofs.YtdbgpakmbjhmgaaW.PrintMore
set_option linter.unusedVariables false
set_option linter.unusedSimpArgs false

theorem fin_twice {c : Ctl} (h : RightP c.1 c.2.1 c.2.2) (r1 : Int × Ctl) (e1 : r1 = finC c.1 c.2.1 c.2.2) : finC r1.2.1 r1.2.2.1 r1.2.2.2 = r1 := by
  rcases fin_spec h with ⟨h2, e⟩ | ⟨h2, e⟩
  · rw [e1, e]
    rcases fin_spec (right_fin h h2) with ⟨_, e3⟩ | ⟨h3, _⟩
    · exact e3
    · exact absurd h2 h3
  · rw [e1, e]; exact e
theorem names_out {k : Nat} {c : Ctl} (h : Good k c) {n : Int} (hn : 50 ≤ n) : hasM c.2.1 n = false := by
  rw [hasM_not]
  intro m hm e
  have := h.names m hm
  omega
def countM (x : Mem) (l : List Mem) : Nat := (l.filter (fun m => m == x)).length
theorem countM_zero (x : Mem) {l : List Mem} (h : ∀ m ∈ l, ¬ m.f0 = x.f0) : countM x l = 0 := by
  unfold countM
  rw [List.length_eq_zero_iff, List.filter_eq_nil_iff]
  intro m hm e
  exact h m hm (by rw [eq_of_beq e])
theorem countM_ins (x : Mem) : ∀ {l : List Mem}, (∀ m ∈ l, ¬ m.f0 = x.f0) → countM x (insGo x l false) = 1
  | [], _ => by simp [insGo, countM]
  | m :: l, h => by
    have hm := h m (List.mem_cons_self ..)
    have hl := fun m' hm' => h m' (List.mem_cons_of_mem _ hm')
    have hne : (m == x) = false := by
      rw [beq_eq_false_iff_ne]; intro e; exact hm (by rw [e])
    have h0 := countM_zero x hl
    have h1 := countM_ins x hl
    unfold countM at *
    rw [insGo, insGo_done]
    by_cases hx : x.f0 < m.f0
    · simp [hx, hne, h0]
    · simp [hx, hne, h1]
theorem countM_take (x : Mem) (l : List Mem) (k : Nat) (h : k < l.length) : countM x (l.take (k + 1)) = countM x (l.take k) + (if (rd_T45 l k == x) = true then 1 else 0) := by
  have e : rd_T45 l k = l[k] := rd_get l (by omega) (by omega)
  rw [e]
  unfold countM
  rw [List.take_add_one, List.getElem?_eq_getElem h, Option.toList_some, List.filter_append]
  by_cases hx : (l[k] == x) = true
  · simp [hx]
  · simp [hx]
theorem countM_le (x : Mem) (l : List Mem) : countM x l ≤ l.length := List.length_filter_le _ _
structure OnceLaw (c : Ctl) (h : Int) (r1 r2 j t : Int × Ctl) : Prop where
  s1 : Short r1.2
  sj : Short j.2
  same : r2 = r1
  full : ¬ j.1 = 0 → j.1 = 50 ∧ c.2.1.length = 8
  ok : j.1 = 0 → countM ⟨h, 2⟩ j.2.2.1 = 1 ∧ j.2.2.1.length = c.2.1.length + 1 ∧ j.2.1 = c.1 ∧ j.2.2.2 = c.2.2 ∧ t = (1, j.2) ∧ rightC j.2.1 j.2.2.1 j.2.2.2 = true
theorem once_law {k : Nat} {c : Ctl} (g : Good k c) {h : Int} (h0 : 50 ≤ h) (h1 : h ≤ 99) (r1 r2 j t : Int × Ctl) (e1 : r1 = finC c.1 c.2.1 c.2.2) (e2 : r2 = finC r1.2.1 r1.2.2.1 r1.2.2.2) (ej : j = joinC h 2 c.1 c.2.1 c.2.2) (et : t = joinC h 2 j.2.1 j.2.2.1 j.2.2.2) : OnceLaw c h r1 r2 j t := by
  have gf : Good k r1.2 := by rw [e1]; exact good_fin g
  have hno := names_out g h0
  have h8 := g.right.m8
  have hp8 := g.right.p8
  have hlv : c.1 ≤ 2 := by rcases g.right.level with e | e <;> omega
  rcases join_spec g.right h 2 (by omega) (by omega) (Or.inr rfl) with ⟨q, _⟩ | ⟨_, q, _⟩ | ⟨_, _, q, e⟩ | ⟨_, _, q, e⟩
  · rw [hno] at q; cases q
  · omega
  · rw [e] at ej
    subst ej
    exact ⟨gf.short, g.short, e2.trans (fin_twice g.right r1 e1), fun _ => ⟨rfl, q⟩, fun e0 => absurd e0 (show ¬ (50 : Int) = 0 by decide)⟩
  · have hr := right_join (x := ⟨h, 2⟩) g.right (show 1 ≤ h by omega) (show h ≤ 100 by omega) (Or.inr rfl) hlv hno q
    rw [e] at ej
    subst ej
    refine ⟨gf.short, ⟨by show (insGo _ _ _).length ≤ 1000; rw [insGo_len]; omega, by show c.2.2.length ≤ 1000; omega⟩, e2.trans (fin_twice g.right r1 e1), fun e0 => absurd rfl e0, fun _ => ⟨countM_ins _ ((hasM_not _ _).1 hno), insGo_len _ _, rfl, rfl, ?_, (right_iff _ _ _).2 hr⟩⟩
    have hyes : hasM (insGo ⟨h, 2⟩ c.2.1 false) h = true := (hasM_iff _ _).2 ⟨⟨h, 2⟩, (insGo_mem _ _ _).2 (Or.inl rfl), rfl⟩
    rcases join_spec hr h 2 (by omega) (by omega) (Or.inr rfl) with ⟨_, e3⟩ | ⟨q2, _⟩ | ⟨q2, _⟩ | ⟨q2, _⟩
    · rw [et]; exact e3
    · rw [hyes] at q2; cases q2
    · rw [hyes] at q2; cases q2
    · rw [hyes] at q2; cases q2

theorem pickI_id {s n : Int} (h0 : 0 ≤ s) (h1 : s < n) : pickI s n = s := by
  unfold pickI
  rw [if_neg (by omega)]
  exact Int.tmod_eq_of_lt h0 h1
theorem cells3 {w : World} {g : Nat} {a b c : Value} {t : Nat} (h : w.heap[g]? = some (.cells #[a, b, c] t (0, 0))) :
    w.cell? ⟨g, 0, none⟩ = some a ∧ w.cell? ⟨g, 1, none⟩ = some b ∧ w.cell? ⟨g, 2, none⟩ = some c ∧ w.frozen? ⟨g, 0, none⟩ = false ∧ w.frozen? ⟨g, 1, none⟩ = false ∧ w.frozen? ⟨g, 2, none⟩ = false ∧ g < w.heap.size :=
  ⟨(blk_cell h 0).trans rfl, (blk_cell h 1).trans rfl, (blk_cell h 2).trans rfl, blk_frozen h 0, blk_frozen h 1, blk_frozen h 2, blk_lt h⟩
def allTwo (ms : List Mem) : Bool := ms.all (fun m => m.f1 == 2)
theorem allTwo_rise {lv last : Int} {ms : List Mem} (h : Rise lv ms last) : allTwo ms = true ↔ Rise 2 ms last := by
  have ha := allTwo_iff h
  have hb : allTwo ms = true ↔ ¬ ms.any (fun m => !(m.f1 == 2)) = true := by
    unfold allTwo
    rw [List.all_eq_true, List.any_eq_true]
    constructor
    · rintro h ⟨m, hm, hq⟩; rw [h m hm] at hq; cases hq
    · intro h m hm
      cases hq : (m.f1 == 2)
      · exact absurd ⟨m, hm, by rw [hq]; rfl⟩ h
      · rfl
  rw [hb]
  constructor
  · intro hn
    by_cases hr : Rise 2 ms last
    · exact hr
    · exact absurd (ha.2 hr) hn
  · intro hr hq
    exact ha.1 hq hr
structure GateLaw (c : Ctl) (f g n : Int × Ctl) : Prop where
  sf : Short f.2
  sg : Short g.2
  sn : Short n.2
  grant : (f.1 == 0) = allTwo c.2.1
  level : (f.2.1 == 2) = (allTwo c.2.1 || c.1 == 2)
  right : rightC f.2.1 f.2.2.1 f.2.2.2 = true
  two : f.2.1 = 2 → g.1 = 22 ∧ n.1 = 22 ∧ g.2 = f.2 ∧ n.2 = f.2
  one : ¬ f.2.1 = 2 → g.1 = 0 ∧ (n.1 = 0 ∨ n.1 = 50 ∧ c.2.1.length = 8) ∧ rightC g.2.1 g.2.2.1 g.2.2.2 = true ∧ rightC n.2.1 n.2.2.1 n.2.2.2 = true
theorem gate_law {k : Nat} {c : Ctl} (gd : Good k c) {h x : Int} (hh : hasM c.2.1 h = true) (h0 : 50 ≤ x) (h1 : x ≤ 99) (f g n : Int × Ctl) (ef : f = finC c.1 c.2.1 c.2.2) (eg : g = reportC h 1 f.2.1 f.2.2.1 f.2.2.2) (en : n = joinC x 1 f.2.1 f.2.2.1 f.2.2.2) : GateLaw c f g n := by
  have gf : Good k f.2 := by rw [ef]; exact good_fin gd
  have gg : Good k g.2 := by rw [eg]; exact good_report gf (Or.inl rfl)
  have hmf : f.2.2.1 = c.2.1 := by rcases fin_spec gd.right with ⟨_, e⟩ | ⟨_, e⟩ <;> rw [ef, e]
  have hno := names_out gf h0
  have hhf : hasM f.2.2.1 h = true := by rw [hmf]; exact hh
  have hlv := gf.right.level
  have hcl := gd.right.level
  have hp8 := gf.right.p8
  have hn : (Short n.2 ∧ rightC n.2.1 n.2.2.1 n.2.2.2 = true) ∧ (f.2.1 = 2 → n.1 = 22 ∧ n.2 = f.2) ∧ (¬ f.2.1 = 2 → (n.1 = 0 ∨ n.1 = 50 ∧ c.2.1.length = 8)) := by
    rcases join_spec gf.right x 1 (by omega) (by omega) (Or.inl rfl) with ⟨q, _⟩ | ⟨_, q, e⟩ | ⟨_, q, q2, e⟩ | ⟨_, q, q2, e⟩
    · rw [hno] at q; cases q
    · rw [en, e]; exact ⟨⟨gf.short, (right_iff _ _ _).2 gf.right⟩, fun _ => ⟨rfl, rfl⟩, fun h2 => by omega⟩
    · rw [en, e]; exact ⟨⟨gf.short, (right_iff _ _ _).2 gf.right⟩, fun h2 => by omega, fun _ => Or.inr ⟨rfl, by rw [← hmf]; exact q2⟩⟩
    · have hr := right_join (x := ⟨x, 1⟩) gf.right (show 1 ≤ x by omega) (show x ≤ 100 by omega) (Or.inl rfl) q hno q2
      rw [en, e]
      exact ⟨⟨⟨by show (insGo _ _ _).length ≤ 1000; rw [insGo_len]; omega, by show f.2.2.2.length ≤ 1000; omega⟩, (right_iff _ _ _).2 hr⟩, fun h2 => by omega, fun _ => Or.inl rfl⟩
  have hg : (f.2.1 = 2 → g.1 = 22 ∧ g.2 = f.2) ∧ (¬ f.2.1 = 2 → g.1 = 0) := by
    rcases report_spec gf.right h 1 (Or.inl rfl) with ⟨q, _⟩ | ⟨_, q, e⟩ | ⟨_, q, _, _, e⟩
    · rw [hhf] at q; cases q
    · rw [eg, e]; exact ⟨fun _ => ⟨rfl, rfl⟩, fun h2 => by omega⟩
    · rw [eg, e]; exact ⟨fun h2 => by omega, fun _ => rfl⟩
  refine ⟨gf.short, gg.short, hn.1.1, ?_, ?_, (right_iff _ _ _).2 gf.right, fun h2 => ⟨(hg.1 h2).1, (hn.2.1 h2).1, (hg.1 h2).2, (hn.2.1 h2).2⟩, fun h2 => ⟨hg.2 h2, hn.2.2 h2, (right_iff _ _ _).2 gg.right, hn.1.2⟩⟩
  · rcases fin_spec gd.right with ⟨q, e⟩ | ⟨q, e⟩
    · rw [ef, e, (allTwo_rise gd.right.rise).2 q]; rfl
    · have : allTwo c.2.1 = false := by
        cases ha : allTwo c.2.1
        · rfl
        · exact absurd ((allTwo_rise gd.right.rise).1 ha) q
      rw [ef, e, this]; rfl
  · rcases fin_spec gd.right with ⟨q, e⟩ | ⟨q, e⟩
    · rw [ef, e, (allTwo_rise gd.right.rise).2 q]; rfl
    · have : allTwo c.2.1 = false := by
        cases ha : allTwo c.2.1
        · rfl
        · exact absurd ((allTwo_rise gd.right.rise).1 ha) q
      rw [ef, e, this]; rfl

/-- Where the law's loop wants what. -/
def wantP (c : Ctl) (s : Int) (h : Int) (i : Nat) : Pla := if (i : Int) = s then ⟨h, (rd_T48 c.2.2 s).f1 + 1, 0⟩ else rd_T48 c.2.2 i
structure MovesLaw (c : Ctl) (s h : Int) (p d k : Int × Ctl) : Prop where
  sp : Short p.2
  sd : Short d.2
  sk : Short k.2
  no : (¬ (rd_T48 c.2.2 s).f2 = 0 ∨ (rd_T48 c.2.2 s).f0 = h) → (p.1 = 92 ∨ p.1 = 1) ∧ p.2 = c
  yes : (rd_T48 c.2.2 s).f2 = 0 → ¬ (rd_T48 c.2.2 s).f0 = h → p.1 = 0 ∧ d.1 = 0 ∧ k.1 = 0 ∧ rightC p.2.1 p.2.2.1 p.2.2.2 = true ∧ rightC d.2.1 d.2.2.1 d.2.2.2 = true ∧ k.2 = c ∧ d.2.2.2.length = c.2.2.length ∧ ∀ i : Nat, i < c.2.2.length → rd_T48 d.2.2.2 i = wantP c s h i
theorem rdP_get (ps : List Pla) {i : Int} (h0 : 0 ≤ i) (h1 : i < ps.length) : rd_T48 ps i = ps[i.toNat]'(by omega) := by
  unfold rd_T48
  rw [List.getD_eq_getElem?_getD, List.getElem?_eq_getElem (by omega), Option.getD_some]
theorem rdP_set (ps : List Pla) {s : Int} (h0 : 0 ≤ s) (h1 : s < ps.length) (q : Pla) (i : Nat) : rd_T48 (ps.set s.toNat q) (i : Int) = if (i : Int) = s then q else rd_T48 ps i := by
  unfold rd_T48
  simp only [Int.toNat_natCast, List.getD_eq_getElem?_getD]
  by_cases h : (i : Int) = s
  · rw [if_pos h]
    obtain rfl : i = s.toNat := by omega
    rw [List.getElem?_set_self (by omega)]
    rfl
  · rw [if_neg h, List.getElem?_set_ne (by omega)]
theorem moves_law {n : Nat} {c : Ctl} (gd : Good n c) (hn : n ≤ 1000) {s h : Int} (s0 : 0 ≤ s) (s1 : s < c.2.2.length) (hh : hasM c.2.1 h = true) (p d k : Int × Ctl) (ep : p = planC s h c.1 c.2.1 c.2.2) (ed : d = commitC s p.2.1 p.2.2.1 p.2.2.2) (ek : k = cancelC s p.2.1 p.2.2.1 p.2.2.2) : MovesLaw c s h p d k := by
  have gp : Good n p.2 := by rw [ep]; exact good_plan gd s0
  have hgd : Good (n + 1) d.2 := by rw [ed]; exact good_commit gp s0
  have gk : Good n k.2 := by rw [ek]; exact good_cancel gp s0
  have hm := rd_mem s0 s1
  obtain ⟨g1, g2, g3, g4⟩ := gd.right.ok _ hm
  have g5 := gd.epochs _ hm
  refine ⟨gp.short, hgd.short, gk.short, fun hno => ?_, fun h2 h3 => ?_⟩
  · have hpl : placeE s c.1 c.2.1 c.2.2 = 0 := placeE_zero' gd.right s0 s1
    have h1a : ¬ placeAt c.2.1 h < 0 := by rw [placeAt_lt0, hh]; decide
    rw [← planR_eq] at ep
    unfold planR at ep
    rw [hpl] at ep
    by_cases q : (rd_T48 c.2.2 s).f2 = 0
    · have q2 : (rd_T48 c.2.2 s).f0 = h := by rcases hno with e | e; exact absurd q e; exact e
      simp [h1a, q, q2] at ep
      rw [ep]; exact ⟨Or.inr rfl, rfl⟩
    · simp [h1a, q] at ep
      rw [ep]; exact ⟨Or.inl rfl, rfl⟩
  · rw [plan_ok gd.right s0 s1 hh h2 h3 (by omega)] at ep
    subst ep
    have hs2 : s < ((c.2.2.set s.toNat ⟨(rd_T48 c.2.2 s).f0, (rd_T48 c.2.2 s).f1, h⟩).length : Int) := by rw [List.length_set]; exact s1
    have er : rd_T48 (c.2.2.set s.toNat ⟨(rd_T48 c.2.2 s).f0, (rd_T48 c.2.2 s).f1, h⟩) s = ⟨(rd_T48 c.2.2 s).f0, (rd_T48 c.2.2 s).f1, h⟩ := by
      have := rdP_set c.2.2 s0 s1 ⟨(rd_T48 c.2.2 s).f0, (rd_T48 c.2.2 s).f1, h⟩ s.toNat
      rw [show ((s.toNat : Nat) : Int) = s from by omega, if_pos rfl] at this
      exact this
    have hh0 : ¬ h = 0 := by
      obtain ⟨m, hm2, e⟩ := (hasM_iff _ _).1 hh
      have := (rise_mem gd.right.rise m hm2).1
      omega
    have ec := commit_ok gp.right s0 hs2 (by rw [er]; exact hh0) (by rw [er]; show (rd_T48 c.2.2 s).f1 < _; omega)
    have ea := cancel_ok gp.right s0 hs2 (by rw [er]; exact hh0)
    simp only [er, List.set_set] at ec ea
    rw [ec] at ed
    rw [ea] at ek
    subst ed; subst ek
    refine ⟨rfl, rfl, rfl, (right_iff _ _ _).2 gp.right, (right_iff _ _ _).2 hgd.right, ?_, by show (List.set _ _ _).length = _; rw [List.length_set], fun i hi => ?_⟩
    · have e0 : (⟨(rd_T48 c.2.2 s).f0, (rd_T48 c.2.2 s).f1, 0⟩ : Pla) = c.2.2[s.toNat]'(by omega) := by
        rw [← rdP_get c.2.2 s0 s1]
        cases hq : rd_T48 c.2.2 s
        rw [hq] at h2
        simp only at h2
        rw [h2]
      show (c.1, c.2.1, c.2.2.set s.toNat _) = c
      rw [e0, List.set_getElem_self]
    · exact rdP_set c.2.2 s0 s1 _ i
end Go.Proofs.Ytdbgpakmbjhmgaa.H
