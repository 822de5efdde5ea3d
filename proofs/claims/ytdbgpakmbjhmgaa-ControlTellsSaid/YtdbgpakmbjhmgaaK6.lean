/- Parts of the proof, merged: Fa, Fb, Ea, Eb, Ec, Ed. -/
import Derived.Test.YtdbgpakmbjhmgaaB
import Derived.WalkKit
import Derived.ProofKit
import Derived.OpenShut
import Derived.ShutString
import Derived.ChangeOld
import Derived.Below
import Derived.SizedLaws
import Derived.Deep.Slices
import Derived.Test.YtdbgpakmbjhmgaaK4
import Derived.Test.YtdbgpakmbjhmgaaK5
/- Arguments opened, by their types' shape: what the reader reads is a value of a kind. -/
namespace Go.Proofs.Ytdbgpakmbjhmgaa.Open
open Go.RowKit Go.Proofs.YtdbgpakmbjhmgaaW.PrintWords Go.Proofs.YtdbgpakmbjhmgaaW.PrintLast Go.Proofs.YtdbgpakmbjhmgaaW.PrintMore Go.ChangeShapes Go.WideShapes Go.Deep
set_option linter.unusedVariables false
set_option linter.unusedSimpArgs false

/-- Whatever the reader reads at type T is a value of the kind d that meets ok. -/
def Opens {α : Type} (P : Program) (T : TypeId) (d : Kd α) (ok : α → Prop) : Prop :=
  ∀ (H : Type) (enc : TypeId × Value → H) (w : World) (base : Nat) (spare : Nat → Bool) (held : Bool) (fuel : Nat) (cs : List Value) (x : DataW H × List MemPlace), DataW.trod enc P w base spare held fuel T cs = some x → ∃ a, d.K w a cs ∧ ok a
def InK (k : IntKind) (n : Int) : Prop := (Lit.int k n).wf = true
theorem opens_int {P : Program} {T : TypeId} {k : IntKind} (ht : P.underlying T = some (.int k)) : Opens P T (Kd.int k) (InK k) := by
  intro H enc w base spare held fuel cs x h
  obtain ⟨n, rfl, _, hw⟩ := DataW.trod_int ht h
  exact ⟨n, rfl, hw⟩
theorem opens_bool {P : Program} {T : TypeId} (ht : P.underlying T = some .bool) : Opens P T Kd.bool (fun _ => True) := by
  intro H enc w base spare held fuel cs x h
  obtain ⟨n, rfl, _⟩ := DataW.trod_bool ht h
  exact ⟨n, rfl, trivial⟩
theorem opens_string {P : Program} {T : TypeId} (ht : P.underlying T = some .string) : Opens P T Kd.string (fun s => s.size ≤ maxLen) := by
  intro H enc w base spare held fuel cs x h
  obtain ⟨n, rfl, _, hs⟩ := DataW.trod_string ht h
  exact ⟨n, rfl, hs⟩
theorem Opens.iso {α β : Type} {P : Program} {T : TypeId} {d : Kd α} {ok : α → Prop} (h : Opens P T d ok) (f : β → α) (g : α → β) (hg : ∀ a, f (g a) = a) : Opens P T (Kd.iso d f) (fun b => ok (f b)) := by
  intro H enc w base spare held fuel cs x hx
  obtain ⟨a, h1, h2⟩ := h H enc w base spare held fuel cs x hx
  exact ⟨g a, by show d.K w (f (g a)) cs; rw [hg]; exact h1, by show ok (f (g a)); rw [hg]; exact h2⟩
theorem Opens.imp {α : Type} {P : Program} {T : TypeId} {d : Kd α} {ok ok' : α → Prop} (h : Opens P T d ok) (hi : ∀ a, ok a → ok' a) : Opens P T d ok' := by
  intro H enc w base spare held fuel cs x hx
  obtain ⟨a, h1, h2⟩ := h H enc w base spare held fuel cs x hx
  exact ⟨a, h1, hi a h2⟩
/-- Parts in a row, each of a type, at its place: from place o on. -/
def OpensFs {α : Type} (P : Program) (fs : List (TypeId × Nat)) (o : Nat) (d : Kd α) (ok : α → Prop) : Prop :=
  ∀ (H : Type) (enc : TypeId × Value → H) (w : World) (base : Nat) (spare : Nat → Bool) (held : Bool) (n : Nat) (cs : List Value), cs.length = o + d.sz →
    (∀ f ∈ fs, ∃ y, DataW.trod enc P w base spare held n f.1 ((cs.drop f.2).take (P.cellsOf f.1)) = some y) → ∃ a, d.K w a (cs.drop o) ∧ ok a
theorem OpensFs.last {α : Type} {P : Program} {t : TypeId} {o : Nat} {d : Kd α} {ok : α → Prop} (h : Opens P t d ok) (hc : P.cellsOf t = d.sz) : OpensFs P [(t, o)] o d ok := by
  intro H enc w base spare held n cs hl hf
  obtain ⟨y, hy⟩ := hf (t, o) (by simp)
  have : (cs.drop o).take (P.cellsOf t) = cs.drop o := List.take_of_length_le (by rw [List.length_drop, hl, hc]; omega)
  simp only [this] at hy
  exact h H enc w base spare held n _ y hy
theorem OpensFs.cons {α β : Type} {P : Program} {t : TypeId} {o : Nat} {d : Kd α} {ok : α → Prop} {fs : List (TypeId × Nat)} {d2 : Kd β} {ok2 : β → Prop} (h : Opens P t d ok) (hc : P.cellsOf t = d.sz) (h2 : OpensFs P fs (o + d.sz) d2 ok2) :
    OpensFs P ((t, o) :: fs) o (Kd.pair d d2) (fun x => ok x.1 ∧ ok2 x.2) := by
  intro H enc w base spare held n cs hl hf
  obtain ⟨y, hy⟩ := hf (t, o) (by simp)
  obtain ⟨a, ha, hoa⟩ := h H enc w base spare held n _ y hy
  obtain ⟨b, hb, hob⟩ := h2 H enc w base spare held n cs (by rw [hl]; show o + (d.sz + d2.sz) = _; omega) (fun f hm => hf f (List.mem_cons_of_mem _ hm))
  refine ⟨(a, b), ⟨_, _, ?_, ha, hb⟩, hoa, hob⟩
  simp only [hc]
  rw [← List.drop_drop, List.take_append_drop]
theorem opens_struct {α : Type} {P : Program} {T : TypeId} {fs : Array Field} {d : Kd α} {ok : α → Prop} (ht : P.underlying T = some (.struct fs)) (hc : P.cellsOf T = d.sz) (h : OpensFs P (fs.toList.map fun f => (f.type, f.offset)) 0 d ok) : Opens P T d ok := by
  intro H enc w base spare held fuel cs x hx
  obtain ⟨xs, n, _, _, hl, hlen, hf⟩ := DataW.trod_struct ht hx
  refine h H enc w base spare held n cs (by rw [hl, hc]; omega) fun f hm => ?_
  obtain ⟨f', hf', rfl⟩ := List.mem_map.1 hm
  obtain ⟨i, hi, e⟩ := List.getElem_of_mem hf'
  have hi2 : i < fs.size := by simpa using hi
  have := hf i f' (by rw [Array.getElem?_eq_getElem hi2]; simpa using e)
  rw [List.getElem?_eq_getElem (by omega)] at this
  exact ⟨_, this⟩
theorem opens_array {α : Type} {P : Program} {T e : TypeId} {n : Nat} {d : Kd α} {ok : α → Prop} (ht : P.underlying T = some (.array n e)) (hc : P.cellsOf T = d.sz) (h : OpensFs P ((List.range n).map fun i => (e, i * P.cellsOf e)) 0 d ok) : Opens P T d ok := by
  intro H enc w base spare held fuel cs x hx
  obtain ⟨xs, m, _, _, hl, hlen, hf⟩ := DataW.trod_array ht hx
  refine h H enc w base spare held m cs (by rw [hl, hc]; omega) fun f hm => ?_
  obtain ⟨i, hi, rfl⟩ := List.mem_map.1 hm
  have hi2 := List.mem_range.1 hi
  have := hf i hi2
  rw [List.getElem?_eq_getElem (by omega)] at this
  exact ⟨_, this⟩
theorem list_of {α : Type} {Q : Nat → α → Prop} : ∀ n : Nat, (∀ i, i < n → ∃ a, Q i a) → ∃ l : List α, l.length = n ∧ ∀ i a, l[i]? = some a → Q i a
  | 0, _ => ⟨[], rfl, fun i a h => by simp at h⟩
  | n + 1, h => by
    obtain ⟨l, hl, hq⟩ := list_of n (fun i hi => h i (by omega))
    obtain ⟨a, ha⟩ := h n (by omega)
    refine ⟨l ++ [a], by simp [hl], fun i b hb => ?_⟩
    by_cases hi : i < n
    · rw [List.getElem?_append_left (by omega)] at hb
      exact hq i b hb
    · rw [List.getElem?_append_right (by omega)] at hb
      have : i - l.length = 0 := by
        by_cases h0 : i - l.length = 0
        · exact h0
        · rw [List.getElem?_eq_none (by simp; omega)] at hb; cases hb
      rw [this] at hb
      have hin : i = n := by omega
      simp at hb
      rw [hin, ← hb]; exact ha
theorem opens_slice {α : Type} {P : Program} {T e : TypeId} {d : Kd α} {ok : α → Prop} (ht : P.underlying T = some (.slice e)) (hc : P.cellsOf e = d.sz) (h : Opens P e d ok) : Opens P T (Kd.slice e d) (fun l => ∀ a ∈ l, ok a) := by
  intro H enc w base spare held fuel cs x hx
  rcases open_slice ht hx with ⟨rfl, _⟩ | ⟨a, len, cap, m, n, D, Pl, rfl, hb, hl, hm, hmm, _, hi⟩
  · exact ⟨[], ⟨none, 0, rfl, Nat.le_refl _, rfl, Nat.zero_le _, fun h => by cases h⟩, fun a h => by cases h⟩
  · have hlm : len ≤ m := by rw [hmm]; split <;> omega
    obtain ⟨l, hll, hq⟩ := list_of (Q := fun i (b : α) => ok b ∧ ∃ c, c.length = d.sz ∧ d.K w b c ∧ ∀ j u, c[j]? = some u → w.cell? (a.add (i * d.sz + j)) = some u) len (fun i hil => by
      obtain ⟨cs', h1, h2⟩ := hi i (by omega)
      obtain ⟨b, hb1, hb2⟩ := h H enc w base spare held n cs' _ h2
      rw [hc] at h1
      obtain ⟨_, hcl, hat⟩ := World.cells?_some h1
      refine ⟨b, hb2, cs', hcl, hb1, fun j u hj => ?_⟩
      have hjl : j < d.sz := by have := (List.getElem?_eq_some_iff.1 hj).1; omega
      rw [← Go.Deep.add_add, hat j hjl, hj])
    subst hll
    refine ⟨l, ⟨some a, cap, rfl, hl, rfl, ?_, fun _ => ⟨a, rfl, fun j p hp => (hq j p hp).2⟩⟩, fun b hb => ?_⟩
    · have : cap ≤ maxLen := hm
      unfold maxLen at this
      omega
    · obtain ⟨i, hi, e⟩ := List.getElem_of_mem hb
      exact (hq i b (by rw [List.getElem?_eq_getElem hi, e])).1
/-- An argument that is a slice, opened. -/
theorem slice_arg {α : Type} {P : Program} {T e : TypeId} {d : Kd α} {ok : List α → Prop} (h : Opens P T (Kd.slice e d) ok) {H : Type} {enc : TypeId × Value → H} {w : World} {base : Nat} {spare : Nat → Bool} {held : Bool} {v : Value} {x : DataW H} {ps : List MemPlace}
    {r : Reach} {b0 : Nat} (ht : P.underlying T = some (.slice e)) (hv : Value.okWide P w r b0 T v) (hd : DataW.Trod enc P w base spare held T v x ps) : ∃ A c l, v = .slice A l.length c ∧ l.length ≤ c ∧ Kd.C d w A l.length l ∧ ok l := by
  obtain ⟨a, len, cap, rfl⟩ := okWide_slice ht hv
  obtain ⟨fuel, hf⟩ := hd
  obtain ⟨l, ⟨A, c, e1, h2, h3⟩, h4⟩ := h H enc w base spare held fuel _ _ hf
  have e2 : [Value.slice a len cap] = [.slice A l.length c] := e1
  injection e2 with e2
  injection e2 with e2 e3 e4
  subst e2; subst e4
  exact ⟨_, _, l, by rw [e3], h2, h3, h4⟩
end Go.Proofs.Ytdbgpakmbjhmgaa.Open

/- This seat's arguments, opened. -/
namespace Go.Proofs.Ytdbgpakmbjhmgaa.Open
open Go.RowKit Go.Proofs.YtdbgpakmbjhmgaaW.PrintWords Go.Proofs.YtdbgpakmbjhmgaaW.PrintLast Go.Proofs.YtdbgpakmbjhmgaaW.PrintMore Go.ChangeShapes Go.WideShapes Go.Deep Go.Proofs.Ytdbgpakmbjhmgaa.H
set_option linter.unusedVariables false
set_option linter.unusedSimpArgs false

theorem inI {n : Int} (h : InK .i64 n) : InI n := bounds_i64 h
theorem opens_raw : Opens Try.prog 22 (Kd.slice 53 k53) (fun l => ∀ x ∈ l, InI x.f0 ∧ InI x.f1 ∧ InI x.f2) := by
  have hi : Opens Try.prog 3 (Kd.int .i64) (InK .i64) := opens_int Try.underlying3
  have hc : Try.prog.cellsOf 3 = (Kd.int .i64).sz := by kernel_rfl
  have he : ((List.range 3).map fun i => ((3 : TypeId), i * Try.prog.cellsOf 3)) = [(3, 0), (3, 1), (3, 2)] := by kernel_rfl
  have h3 : Opens Try.prog 53 (Kd.pair (Kd.int .i64) (Kd.pair (Kd.int .i64) (Kd.int .i64))) _ := opens_array Try.underlying53 (by kernel_rfl) (by rw [he]; exact OpensFs.cons hi hc (OpensFs.cons hi hc (OpensFs.last hi hc)))
  have h4 : Opens Try.prog 22 (Kd.slice 53 k53) _ := opens_slice Try.underlying22 (by kernel_rfl) (h3.iso (fun x : S53 => (x.f0, x.f1, x.f2)) (fun a => ⟨a.1, a.2.1, a.2.2⟩) (fun _ => rfl))
  exact Opens.imp (ok' := fun l => ∀ x ∈ l, InI x.f0 ∧ InI x.f1 ∧ InI x.f2) h4 fun l h x hx => ⟨inI (h x hx).1, inI (h x hx).2.1, inI (h x hx).2.2⟩
end Go.Proofs.Ytdbgpakmbjhmgaa.Open

/- Plain laws of controllers: what right means; both texts' commands are the same. -/
namespace Go.Proofs.Ytdbgpakmbjhmgaa.H
open Go.RowKit Go.Proofs.YtdbgpakmbjhmgaaW.PrintWords Go.Proofs.YtdbgpakmbjhmgaaW.PrintLast Go.Proofs.YtdbgpakmbjhmgaaW.PrintMore
set_option linter.unusedVariables false
set_option linter.unusedSimpArgs false

abbrev Mem := S45
abbrev Pla := S48
def Rise (lv : Int) : List Mem → Int → Prop
  | [], _ => True
  | m :: ms, last => last < m.f0 ∧ m.f0 ≤ 100 ∧ (m.f1 = 1 ∨ m.f1 = 2) ∧ lv ≤ m.f1 ∧ Rise lv ms m.f0
theorem version_iff (b : Int) : version b = true ↔ (b = 1 ∨ b = 2) := by simp [version]
theorem version_not (b : Int) : version b = false ↔ ¬ (b = 1 ∨ b = 2) := by simp [version]
theorem rise_iff (lv : Int) : ∀ (ms : List Mem) (last : Int), membersGo lv ms last = true ↔ Rise lv ms last
  | [], _ => by simp [membersGo, Rise]
  | m :: ms, last => by
    rw [membersGo, Rise]
    by_cases h : m.f0 ≤ last ∨ 100 < m.f0 ∨ version m.f1 = false ∨ m.f1 < lv
    · rw [if_pos h]
      simp only [Bool.false_eq_true, false_iff]
      rintro ⟨h1, h2, h3, h4, _⟩
      rcases h with h | h | h | h
      · omega
      · omega
      · exact (version_not _).1 h h3
      · omega
    · rw [if_neg h, rise_iff lv ms m.f0]
      simp only [not_or] at h
      obtain ⟨h1, h2, h3, h4⟩ := h
      have h5 : m.f1 = 1 ∨ m.f1 = 2 := by
        by_cases g : m.f1 = 1 ∨ m.f1 = 2
        · exact g
        · exact absurd ((version_not _).2 g) h3
      constructor
      · intro h; exact ⟨by omega, by omega, h5, by omega, h⟩
      · intro h; exact h.2.2.2.2
theorem rise_mono {lv a b : Int} (h : a ≤ b) : ∀ {ms : List Mem}, Rise lv ms b → Rise lv ms a
  | [], _ => trivial
  | m :: ms, hr => ⟨by have := hr.1; omega, hr.2⟩
theorem rise_mem {lv : Int} : ∀ {ms : List Mem} {last : Int}, Rise lv ms last → ∀ m ∈ ms, last < m.f0 ∧ m.f0 ≤ 100 ∧ (m.f1 = 1 ∨ m.f1 = 2) ∧ lv ≤ m.f1
  | [], _, _, _, h => by cases h
  | x :: ms, last, hr, m, h => by
    obtain ⟨h1, h2, h3, h4, h5⟩ := hr
    rcases List.mem_cons.1 h with e | e
    · subst e; exact ⟨h1, h2, h3, h4⟩
    · obtain ⟨g1, g2, g3, g4⟩ := rise_mem h5 m e
      exact ⟨by omega, g2, g3, g4⟩
theorem hasM_iff (ms : List Mem) (n : Int) : hasM ms n = true ↔ ∃ m ∈ ms, m.f0 = n := by
  simp [hasM, named, List.any_eq_true]
theorem hasM_not (ms : List Mem) (n : Int) : hasM ms n = false ↔ ∀ m ∈ ms, ¬ m.f0 = n := by
  rw [← Bool.not_eq_true, hasM_iff]
  simp
theorem placeAt_nonneg (ms : List Mem) (n : Int) : 0 ≤ placeAt ms n ↔ hasM ms n = true := by
  have := placeAt_neg ms n
  by_cases h : placeAt ms n < 0
  · rw [decide_eq_true h] at this
    constructor
    · intro _; omega
    · intro h2; rw [h2] at this; cases this
  · rw [decide_eq_false h] at this
    constructor
    · intro _; cases h3 : hasM ms n
      · rw [h3] at this; cases this
      · rfl
    · intro _; omega
/-- A place that may be, spelled out. -/
def PlaceOk (ms : List Mem) (p : Pla) : Prop := hasM ms p.f0 = true ∧ 1 ≤ p.f1 ∧ p.f1 ≤ 9007199254740992 ∧ (p.f2 = 0 ∨ (hasM ms p.f2 = true ∧ ¬ p.f2 = p.f0))
theorem odd_iff (ms : List Mem) (p : Pla) : oddP ms p = false ↔ PlaceOk ms p := by
  unfold oddP PlaceOk
  cases hasM ms p.f0 <;> cases hasM ms p.f2 <;> simp <;> omega
structure RightP (lv : Int) (ms : List Mem) (ps : List Pla) : Prop where
  level : lv = 1 ∨ lv = 2
  rise : Rise lv ms 0
  m1 : 1 ≤ ms.length
  m8 : ms.length ≤ 8
  p1 : 1 ≤ ps.length
  p8 : ps.length ≤ 8
  ok : ∀ p ∈ ps, PlaceOk ms p
theorem right_iff (lv : Int) (ms : List Mem) (ps : List Pla) : rightC lv ms ps = true ↔ RightP lv ms ps := by
  unfold rightC membersOk
  rw [Bool.and_eq_true, Bool.and_eq_true, Bool.and_eq_true, Bool.and_eq_true, Bool.and_eq_true, Bool.and_eq_true, decide_eq_true_iff, decide_eq_true_iff, decide_eq_true_iff, decide_eq_true_iff, version_iff, rise_iff, Bool.not_eq_true', List.any_eq_false]
  constructor
  · rintro ⟨h1, ⟨h2, h3, h4⟩, h5, h6, h7⟩
    exact ⟨h1, h2, h3, h4, h5, h6, fun p hp => (odd_iff ms p).1 (by simpa using h7 p hp)⟩
  · rintro ⟨h1, h2, h3, h4, h5, h6, h7⟩
    exact ⟨h1, ⟨h2, h3, h4⟩, h5, h6, fun p hp => by rw [(odd_iff ms p).2 (h7 p hp)]; decide⟩
theorem right_not {lv : Int} {ms : List Mem} {ps : List Pla} (h : ¬ RightP lv ms ps) : rightC lv ms ps = false := by
  cases hr : rightC lv ms ps
  · rfl
  · exact absurd ((right_iff _ _ _).1 hr) h
theorem binR_iff {lv b : Int} (h : lv = 1 ∨ lv = 2) (hb : b = 1 ∨ b = 2) : binR lv b = false ↔ b < lv := by
  rcases h with rfl | rfl <;> rcases hb with rfl | rfl <;> decide

/- Finalise. -/
theorem allTwo_iff {lv : Int} : ∀ {ms : List Mem} {last : Int}, Rise lv ms last → (ms.any (fun m => !(m.f1 == 2)) = true ↔ ¬ Rise 2 ms last)
  | [], _, _ => by simp [Rise]
  | m :: ms, last, hr => by
    obtain ⟨h1, h2, h3, h4, h5⟩ := hr
    have ih := allTwo_iff h5
    rw [List.any_cons, Bool.or_eq_true, ih, Rise]
    rcases h3 with h3 | h3
    · simp [h3]
    · simp [h3, h1, h2]
theorem finR_eq (lv : Int) (ms : List Mem) (ps : List Pla) : finR lv ms ps = finC lv ms ps := by
  unfold finR finC changedC fFin
  cases hr : rightC lv ms ps
  · simp
  · have hp := (right_iff _ _ _).1 hr
    have hm : membersOk ms 2 = true ↔ Rise 2 ms 0 := by
      unfold membersOk
      rw [Bool.and_eq_true, Bool.and_eq_true, decide_eq_true_iff, decide_eq_true_iff, rise_iff]
      exact ⟨fun h => h.1, fun h => ⟨h, hp.m1, hp.m8⟩⟩
    by_cases h : Rise 2 ms 0
    · have h2 : ¬ ms.any (fun m => !(m.f1 == 2)) = true := fun h3 => (allTwo_iff hp.rise).1 h3 h
      simp only [if_neg h2, if_pos (hm.2 h)]
      simp
    · have h2 : ms.any (fun m => !(m.f1 == 2)) = true := (allTwo_iff hp.rise).2 h
      have h3 : ¬ membersOk ms 2 = true := fun h3 => h (hm.1 h3)
      simp only [if_pos h2, if_neg h3]
      simp
/- Report. -/
theorem placeAt_lt0 (ms : List Mem) (n : Int) : placeAt ms n < 0 ↔ hasM ms n = false := by
  rw [← Bool.not_eq_true, ← placeAt_nonneg]
  omega
theorem reportR_eq (name b lv : Int) (ms : List Mem) (ps : List Pla) : reportR name b lv ms ps = reportC name b lv ms ps := by
  unfold reportR reportC changedC fRep
  cases hr : rightC lv ms ps
  · simp
  · have hp := (right_iff _ _ _).1 hr
    by_cases h1 : b = 1 ∨ b = 2
    · have h1a : version b = true := (version_iff b).2 h1
      have h1b : ¬ (¬ b = 1 ∧ ¬ b = 2) := by omega
      rw [h1a]
      by_cases h2 : hasM ms name = true
      · have h2a : ¬ placeAt ms name < 0 := by rw [placeAt_lt0, h2]; decide
        rw [h2]
        have h2c : ¬ idx (named name) ms 0 < 0 := h2a
        by_cases h3 : b < lv
        · have h3a := (binR_iff hp.level h1).2 h3
          simp [h1b, h2a, h3, h3a]
        · have h3a : ¬ binR lv b = false := fun h => h3 ((binR_iff hp.level h1).1 h)
          simp [h1b, placeAt, h2c, h3, h3a]
      · have h2b : hasM ms name = false := by simpa using h2
        have h2a : placeAt ms name < 0 := by rw [placeAt_lt0, h2b]
        simp [h1b, h2a, h2b]
    · have h1a : version b = false := (version_not b).2 h1
      have h1b : ¬ b = 1 ∧ ¬ b = 2 := by omega
      simp [h1a, h1b]
/- Plan, Cancel. -/
theorem placeE_right {shard lv : Int} {ms : List Mem} {ps : List Pla} (h : rightC lv ms ps = true) : placeE shard lv ms ps = if shard < 0 then 83 else if (ps.length : Int) ≤ shard then 83 else 0 := by
  unfold placeE; rw [h]; simp
theorem planR_eq (s t lv : Int) (ms : List Mem) (ps : List Pla) : planR s t lv ms ps = planC s t lv ms ps := by
  unfold planR planC placedC changedC fPlaced pfPlan
  cases hr : rightC lv ms ps
  · have : placeE s lv ms ps = 1 := by unfold placeE; rw [hr]; rfl
    simp [this]
  · rw [placeE_right hr]
    by_cases h1 : s < 0
    · simp [h1]
    by_cases h2 : (ps.length : Int) ≤ s
    · simp [h1, h2]
    simp only [h1, h2, if_false, not_true_eq_false, if_true]
    by_cases h3 : hasM ms t = true
    · have h3a : ¬ placeAt ms t < 0 := by rw [placeAt_lt0, h3]; decide
      rw [h3]
      simp only [h3a, if_false]
      by_cases h4 : (rd_T48 ps s).f2 = 0
      · by_cases h5 : (rd_T48 ps s).f0 = t
        · simp [h4, h5]
        · by_cases h6 : (rd_T48 ps s).f1 = 9007199254740992
          · simp [h4, h5, h6]
          · simp [h4, h5, h6]
      · simp [h4]
    · have h3b : hasM ms t = false := by simpa using h3
      have h3a : placeAt ms t < 0 := by rw [placeAt_lt0, h3b]
      simp [h3a, h3b]
theorem cancelR_eq (s lv : Int) (ms : List Mem) (ps : List Pla) : cancelR s lv ms ps = cancelC s lv ms ps := by
  unfold cancelR cancelC placedC changedC fPlaced pfCancel
  cases hr : rightC lv ms ps
  · have : placeE s lv ms ps = 1 := by unfold placeE; rw [hr]; rfl
    simp [this]
  · rw [placeE_right hr]
    by_cases h1 : s < 0
    · simp [h1]
    by_cases h2 : (ps.length : Int) ≤ s
    · simp [h1, h2]
    simp only [h1, h2, if_false, not_true_eq_false, if_true]
    by_cases h4 : (rd_T48 ps s).f2 = 0
    · simp [h4]
    · simp [h4]
/- Commit. -/
theorem rd_mem {s : Int} {ps : List Pla} (h0 : 0 ≤ s) (h1 : s < ps.length) : rd_T48 ps s ∈ ps := by
  unfold rd_T48
  rw [List.getD_eq_getElem?_getD, List.getElem?_eq_getElem (by omega), Option.getD_some]
  exact List.getElem_mem _
theorem set_ok {ms : List Mem} {ps : List Pla} {i : Nat} {q : Pla} (h : ∀ p ∈ ps, PlaceOk ms p) (hq : PlaceOk ms q) : ∀ p ∈ ps.set i q, PlaceOk ms p := by
  intro p hp
  rcases List.mem_or_eq_of_mem_set hp with h1 | h1
  · exact h p h1
  · subst h1; exact hq
theorem right_set {lv : Int} {ms : List Mem} {ps : List Pla} {i : Nat} {q : Pla} (h : RightP lv ms ps) (hq : PlaceOk ms q) : RightP lv ms (ps.set i q) :=
  ⟨h.level, h.rise, h.m1, h.m8, by rw [List.length_set]; exact h.p1, by rw [List.length_set]; exact h.p8, set_ok h.ok hq⟩
theorem wrap_up {x : Int} (h0 : 1 ≤ x) (h1 : x ≤ 9007199254740992) : wrap64 (x + 1) = x + 1 := by unfold wrap64; omega
theorem commitR_eq (s lv : Int) (ms : List Mem) (ps : List Pla) : commitR s lv ms ps = commitC s lv ms ps := by
  unfold commitR commitC placedC changedC fPlaced pfCommit
  cases hr : rightC lv ms ps
  · have : placeE s lv ms ps = 1 := by unfold placeE; rw [hr]; rfl
    simp [this]
  · rw [placeE_right hr]
    have hp := (right_iff _ _ _).1 hr
    by_cases h1 : s < 0
    · simp [h1]
    by_cases h2 : (ps.length : Int) ≤ s
    · simp [h1, h2]
    simp only [h1, h2, if_false, not_true_eq_false, if_true]
    obtain ⟨g1, g2, g3, g4⟩ := hp.ok _ (rd_mem (s := s) (ps := ps) (by omega) (by omega))
    by_cases h4 : (rd_T48 ps s).f2 = 0
    · simp [h4]
    · have g5 : hasM ms (rd_T48 ps s).f2 = true := by rcases g4 with g | g; exact absurd g h4; exact g.1
      by_cases h6 : (rd_T48 ps s).f1 = 9007199254740992
      · have hn : rightC lv ms (ps.set s.toNat ⟨(rd_T48 ps s).f2, wrap64 ((rd_T48 ps s).f1 + 1), 0⟩) = false := by
          refine right_not fun h => ?_
          have hq : (⟨(rd_T48 ps s).f2, wrap64 ((rd_T48 ps s).f1 + 1), 0⟩ : Pla) ∈ ps.set s.toNat ⟨(rd_T48 ps s).f2, wrap64 ((rd_T48 ps s).f1 + 1), 0⟩ := List.mem_set (by omega) _
          have := (h.ok _ hq).2.2.1
          simp only at this
          rw [wrap_up g2 g3] at this
          omega
        rw [hn]
        simp [h4, h6]
      · have hn : rightC lv ms (ps.set s.toNat ⟨(rd_T48 ps s).f2, wrap64 ((rd_T48 ps s).f1 + 1), 0⟩) = true := by
          refine (right_iff _ _ _).2 (right_set hp ⟨g5, ?_, ?_, Or.inl rfl⟩)
          · show 1 ≤ wrap64 _
            rw [wrap_up g2 g3]; omega
          · show wrap64 _ ≤ _
            rw [wrap_up g2 g3]; omega
        rw [hn]
        simp [h4, h6]
end Go.Proofs.Ytdbgpakmbjhmgaa.H

/- Plain laws of controllers: Join; what each command leaves is right. -/
namespace Go.Proofs.Ytdbgpakmbjhmgaa.H
open Go.RowKit Go.Proofs.YtdbgpakmbjhmgaaW.PrintWords Go.Proofs.YtdbgpakmbjhmgaaW.PrintLast Go.Proofs.YtdbgpakmbjhmgaaW.PrintMore
set_option linter.unusedVariables false
set_option linter.unusedSimpArgs false

theorem insGo_done (x : Mem) : ∀ ms : List Mem, insGo x ms true = ms
  | [] => by simp [insGo]
  | m :: ms => by rw [insGo, insGo_done x ms]; simp
theorem insGo_mem (x : Mem) : ∀ (ms : List Mem) (m : Mem), m ∈ insGo x ms false ↔ m = x ∨ m ∈ ms
  | [], m => by simp [insGo]
  | y :: ms, m => by
    rw [insGo, insGo_done]
    by_cases h : x.f0 < y.f0
    · simp [h]
    · have ih := insGo_mem x ms m
      simp only [h, decide_false, Bool.and_false, Bool.false_eq_true, if_false, List.mem_cons, ih]
      constructor
      · rintro (h1 | h1 | h1)
        · exact Or.inr (Or.inl h1)
        · exact Or.inl h1
        · exact Or.inr (Or.inr h1)
      · rintro (h1 | h1 | h1)
        · exact Or.inr (Or.inl h1)
        · exact Or.inl h1
        · exact Or.inr (Or.inr h1)
theorem insGo_len (x : Mem) : ∀ (ms : List Mem), (insGo x ms false).length = ms.length + 1
  | [] => by simp [insGo]
  | y :: ms => by
    rw [insGo, insGo_done]
    by_cases h : x.f0 < y.f0
    · simp [h]
    · simp [h, insGo_len x ms]
theorem rise_ins {lv : Int} {x : Mem} (h1 : x.f0 ≤ 100) (h2 : x.f1 = 1 ∨ x.f1 = 2) (h3 : lv ≤ x.f1) : ∀ {ms : List Mem} {last : Int}, last < x.f0 → (∀ m ∈ ms, ¬ m.f0 = x.f0) → Rise lv ms last → Rise lv (insGo x ms false) last
  | [], last, hl, _, _ => by
    show Rise lv [x] last
    exact ⟨hl, h1, h2, h3, trivial⟩
  | m :: ms, last, hl, hn, hr => by
    obtain ⟨r1, r2, r3, r4, r5⟩ := hr
    rw [insGo, insGo_done]
    by_cases h : x.f0 < m.f0
    · simp only [h, decide_true, Bool.and_true, Bool.not_false, if_true]
      exact ⟨hl, h1, h2, h3, h, r2, r3, r4, r5⟩
    · simp only [h, decide_false, Bool.and_false, Bool.false_eq_true, if_false]
      have := hn m (List.mem_cons_self ..)
      exact ⟨r1, r2, r3, r4, rise_ins h1 h2 h3 (by omega) (fun m' hm' => hn m' (List.mem_cons_of_mem _ hm')) r5⟩
theorem insGo_before (x y : Mem) (h : x.f0 < y.f0) : ∀ q : List Mem, insGo x (q ++ [y]) false = insGo x q false ++ [y]
  | [] => by simp [insGo, h]
  | m :: q => by
    rw [List.cons_append, insGo, insGo, insGo_done, insGo_done, insGo_before x y h q]
    by_cases h2 : x.f0 < m.f0
    · simp [h2]
    · simp [h2]
theorem insGo_last (x : Mem) : ∀ (p : List Mem), (∀ m ∈ p, ¬ x.f0 < m.f0) → insGo x p false = p ++ [x]
  | [], _ => by simp [insGo]
  | m :: p, h => by
    rw [insGo, insGo_last x p (fun m' hm' => h m' (List.mem_cons_of_mem _ hm'))]
    simp [h m (List.mem_cons_self ..)]
theorem rd_nat (l : List Mem) (k : Nat) : rd_T45 l (k : Int) = l.getD k z45 := by simp [rd_T45]
theorem sink_ins (x : Mem) : ∀ (n : Nat) (p s : List Mem), p.length = n → p.Pairwise (fun a b => a.f0 < b.f0) → sinkM (p ++ x :: s) n = insGo x p false ++ s
  | 0, p, s, hn, _ => by
    obtain rfl : p = [] := List.eq_nil_of_length_eq_zero hn
    simp [sinkM, insGo]
  | k + 1, p, s, hn, hp => by
    have hne : p ≠ [] := by intro h; subst h; simp at hn
    obtain ⟨q, y, rfl⟩ : ∃ q y, p = q ++ [y] := ⟨p.dropLast, p.getLast hne, (List.dropLast_concat_getLast hne).symm⟩
    have hq : q.length = k := by simpa using hn
    subst hq
    have e : (q ++ [y]) ++ x :: s = q ++ y :: x :: s := by simp
    have r1 : rd_T45 (q ++ y :: x :: s) ((q.length + 1 : Nat) : Int) = x := by
      rw [rd_nat, List.getD_eq_getElem?_getD, List.getElem?_append_right (by omega)]
      simp
    have r0 : rd_T45 (q ++ y :: x :: s) ((q.length : Nat) : Int) = y := by
      rw [rd_nat, List.getD_eq_getElem?_getD, List.getElem?_append_right (by omega)]
      simp
    rw [e, sinkM, r1, r0]
    by_cases h : x.f0 < y.f0
    · rw [if_pos h]
      have e2 : ((q ++ y :: x :: s).set (q.length + 1) y).set q.length x = q ++ x :: (y :: s) := by
        rw [List.set_append_right _ _ (by omega), List.set_append_right _ _ (by omega)]
        simp
      rw [e2, sink_ins x q.length q (y :: s) rfl (List.pairwise_append.1 hp).1, insGo_before x y h q]
      simp
    · rw [if_neg h, insGo_last x (q ++ [y])]
      · simp
      · intro m hm hlt
        rcases List.mem_append.1 hm with h1 | h1
        · have := (List.pairwise_append.1 hp).2.2 m h1 y (by simp)
          omega
        · simp at h1; subst h1; exact h hlt
theorem sink_same {p : List Mem} (hp : p.Pairwise (fun a b => a.f0 < b.f0)) (s : List Mem) {i : Nat} (h : i < p.length) : sinkM (p ++ s) i = p ++ s := by
  cases i with
  | zero => rfl
  | succ k =>
    have g1 : rd_T45 (p ++ s) ((k + 1 : Nat) : Int) = p[k + 1] := by
      rw [rd_nat, List.getD_eq_getElem?_getD, List.getElem?_append_left h, List.getElem?_eq_getElem h, Option.getD_some]
    have g0 : rd_T45 (p ++ s) ((k : Nat) : Int) = p[k] := by
      rw [rd_nat, List.getD_eq_getElem?_getD, List.getElem?_append_left (by omega), List.getElem?_eq_getElem (by omega), Option.getD_some]
    rw [sinkM, g1, g0]
    have := (List.pairwise_iff_getElem.1 hp) k (k + 1) (by omega) h (by omega)
    rw [if_neg (by omega)]
theorem sort_ins (x : Mem) {p : List Mem} (hp : p.Pairwise (fun a b => a.f0 < b.f0)) : ∀ (d i : Nat), 1 ≤ d → i + d = p.length + 1 → sortM (p ++ [x]) i d = insGo x p false
  | 0, i, h, _ => absurd h (by decide)
  | d + 1, i, _, hid => by
    rw [sortM]
    by_cases h : d = 0
    · subst h
      obtain rfl : i = p.length := by omega
      rw [sink_ins x p.length p [] rfl hp, sortM]
      simp
    · rw [sink_same hp [x] (by omega)]
      exact sort_ins x hp d (i + 1) (by omega) (by omega)
theorem rise_pair {lv : Int} : ∀ {ms : List Mem} {last : Int}, Rise lv ms last → ms.Pairwise (fun a b => a.f0 < b.f0)
  | [], _, _ => List.Pairwise.nil
  | m :: ms, last, h => List.Pairwise.cons (fun b hb => (rise_mem h.2.2.2.2 b hb).1) (rise_pair h.2.2.2.2)
theorem joinR_eq (name b lv : Int) (ms : List Mem) (ps : List Pla) : joinR name b lv ms ps = joinC name b lv ms ps := by
  unfold joinR joinC changedC fJoin
  cases hr : rightC lv ms ps
  · simp
  · have hp := (right_iff _ _ _).1 hr
    have hw : version b = (b == 1 || b == 2) := rfl
    by_cases h1 : name < 1
    · simp [h1]
    by_cases h2 : 100 < name
    · simp [h1, h2]
    by_cases h3 : b = 1 ∨ b = 2
    · have h3a : version b = true := (version_iff b).2 h3
      have h3b : (!(b == 1) && !(b == 2)) = false := by simp; omega
      rw [h3a, h3b]
      by_cases h4 : hasM ms name = true
      · have h4a : 0 ≤ placeAt ms name := (placeAt_nonneg ms name).2 h4
        simp [h1, h2, h4, h4a]
      · have h4a : ¬ 0 ≤ placeAt ms name := fun h => h4 ((placeAt_nonneg ms name).1 h)
        by_cases h5 : b < lv
        · have h5a := (binR_iff hp.level h3).2 h5
          simp [h1, h2, h4, h4a, h5, h5a]
        · have h5a : ¬ binR lv b = false := fun h => h5 ((binR_iff hp.level h3).1 h)
          by_cases h6 : 8 ≤ ms.length
          · simp [h1, h2, h4, h4a, h5, h5a, h6]
          · simp [h1, h2, h4, h4a, h5, h5a, h6, sort_ins ⟨name, b⟩ (rise_pair hp.rise) ms.length 1 hp.m1 (by omega)]
    · have h3a : version b = false := (version_not b).2 h3
      have h3b : (!(b == 1) && !(b == 2)) = true := by simp; omega
      rw [h3a, h3b]
      simp [h1, h2]

theorem PlaceOk.mono {ms ms' : List Mem} {p : Pla} (h : PlaceOk ms p) (hm : ∀ n, hasM ms n = true → hasM ms' n = true) : PlaceOk ms' p :=
  ⟨hm _ h.1, h.2.1, h.2.2.1, h.2.2.2.elim Or.inl (fun g => Or.inr ⟨hm _ g.1, g.2⟩)⟩
theorem right_join {lv : Int} {ms : List Mem} {ps : List Pla} {x : Mem} (h : RightP lv ms ps) (h0 : 1 ≤ x.f0) (h1 : x.f0 ≤ 100) (h2 : x.f1 = 1 ∨ x.f1 = 2) (h3 : lv ≤ x.f1) (h4 : hasM ms x.f0 = false) (h5 : ms.length < 8) : RightP lv (insGo x ms false) ps :=
  ⟨h.level, rise_ins h1 h2 h3 (by omega) ((hasM_not _ _).1 h4) h.rise, by rw [insGo_len]; omega, by rw [insGo_len]; omega, h.p1, h.p8, fun p hp => (h.ok p hp).mono fun n hn => by
    obtain ⟨m, hm, e⟩ := (hasM_iff _ _).1 hn
    exact (hasM_iff _ _).2 ⟨m, (insGo_mem _ _ _).2 (Or.inr hm), e⟩⟩
theorem rise_set {lv b : Int} (hb : b = 1 ∨ b = 2) (hl : lv ≤ b) : ∀ {ms : List Mem} {last : Int} (i : Nat) (h : i < ms.length), Rise lv ms last → Rise lv (ms.set i ⟨ms[i].f0, b⟩) last
  | m :: ms, last, 0, _, hr => ⟨hr.1, hr.2.1, hb, hl, hr.2.2.2.2⟩
  | m :: ms, last, i + 1, h, hr => ⟨hr.1, hr.2.1, hr.2.2.1, hr.2.2.2.1, rise_set hb hl i (by simpa using h) hr.2.2.2.2⟩
theorem hasM_set (b n : Int) : ∀ (ms : List Mem) (i : Nat) (h : i < ms.length), hasM (ms.set i ⟨ms[i].f0, b⟩) n = hasM ms n
  | m :: ms, 0, _ => rfl
  | m :: ms, i + 1, h => by
    have := hasM_set b n ms i (by simpa using h)
    unfold hasM at *
    simp only [List.set_cons_succ, List.any_cons, List.getElem_cons_succ]
    rw [this]
theorem right_report {lv b : Int} {ms : List Mem} {ps : List Pla} (h : RightP lv ms ps) (hb : b = 1 ∨ b = 2) (hl : lv ≤ b) {i : Nat} (hi : i < ms.length) : RightP lv (ms.set i ⟨ms[i].f0, b⟩) ps :=
  ⟨h.level, rise_set hb hl i hi h.rise, by rw [List.length_set]; exact h.m1, by rw [List.length_set]; exact h.m8, h.p1, h.p8, fun p hp => (h.ok p hp).mono fun n hn => by rw [hasM_set]; exact hn⟩
theorem right_fin {lv : Int} {ms : List Mem} {ps : List Pla} (h : RightP lv ms ps) (h2 : Rise 2 ms 0) : RightP 2 ms ps :=
  ⟨Or.inr rfl, h2, h.m1, h.m8, h.p1, h.p8, h.ok⟩
end Go.Proofs.Ytdbgpakmbjhmgaa.H

/- Plain laws of controllers: what each command gives; raw controllers are right. -/
namespace Go.Proofs.Ytdbgpakmbjhmgaa.H
open Go.RowKit Go.Proofs.YtdbgpakmbjhmgaaW.PrintWords Go.Proofs.YtdbgpakmbjhmgaaW.PrintLast Go.Proofs.YtdbgpakmbjhmgaaW.PrintMore
set_option linter.unusedVariables false
set_option linter.unusedSimpArgs false

variable {lv : Int} {ms : List Mem} {ps : List Pla}
theorem fin_spec (h : RightP lv ms ps) : (Rise 2 ms 0 ∧ finC lv ms ps = (0, 2, ms, ps)) ∨ (¬ Rise 2 ms 0 ∧ finC lv ms ps = (22, lv, ms, ps)) := by
  rw [← finR_eq]
  have hr := (right_iff _ _ _).2 h
  unfold finR
  rw [hr]
  by_cases h2 : Rise 2 ms 0
  · left
    have : ¬ ms.any (fun m => !(m.f1 == 2)) = true := fun h3 => (allTwo_iff h.rise).1 h3 h2
    exact ⟨h2, by rw [if_neg (by decide), if_neg this]⟩
  · right
    have : ms.any (fun m => !(m.f1 == 2)) = true := (allTwo_iff h.rise).2 h2
    exact ⟨h2, by rw [if_neg (by decide), if_pos this]⟩
theorem join_spec (h : RightP lv ms ps) (name b : Int) (h0 : 1 ≤ name) (h1 : name ≤ 100) (hb : b = 1 ∨ b = 2) :
    (hasM ms name = true ∧ joinC name b lv ms ps = (1, lv, ms, ps)) ∨ (hasM ms name = false ∧ b < lv ∧ joinC name b lv ms ps = (22, lv, ms, ps)) ∨ (hasM ms name = false ∧ lv ≤ b ∧ ms.length = 8 ∧ joinC name b lv ms ps = (50, lv, ms, ps)) ∨
    (hasM ms name = false ∧ lv ≤ b ∧ ms.length < 8 ∧ joinC name b lv ms ps = (0, lv, insGo ⟨name, b⟩ ms false, ps)) := by
  rw [← joinR_eq]
  have hr := (right_iff _ _ _).2 h
  have hbb : (!(b == 1) && !(b == 2)) = false := by simp; omega
  have h8 := h.m8
  unfold joinR
  rw [hr, hbb]
  by_cases h4 : hasM ms name = true
  · have h4a : 0 ≤ placeAt ms name := (placeAt_nonneg ms name).2 h4
    left; simp [h4, h4a]
  · have h4b : hasM ms name = false := by simpa using h4
    have h4a : ¬ 0 ≤ placeAt ms name := fun h => h4 ((placeAt_nonneg ms name).1 h)
    have d0 : ¬ name < 1 := by omega
    have d1 : ¬ 100 < name := by omega
    right
    by_cases h5 : b < lv
    · have h5a := (binR_iff h.level hb).2 h5
      left; simp [h4b, h4a, h5, h5a, d0, d1]
    · have h5a : ¬ binR lv b = false := fun g => h5 ((binR_iff h.level hb).1 g)
      right
      by_cases h6 : 8 ≤ ms.length
      · left; exact ⟨h4b, by omega, by omega, by simp [h4a, h5a, h6, d0, d1]⟩
      · right; exact ⟨h4b, by omega, by omega, by simp [h4a, h5a, h6, d0, d1]⟩
theorem report_spec (h : RightP lv ms ps) (name b : Int) (hb : b = 1 ∨ b = 2) :
    (hasM ms name = false ∧ reportC name b lv ms ps = (70, lv, ms, ps)) ∨ (hasM ms name = true ∧ b < lv ∧ reportC name b lv ms ps = (22, lv, ms, ps)) ∨
    (hasM ms name = true ∧ lv ≤ b ∧ 0 ≤ placeAt ms name ∧ placeAt ms name < ms.length ∧ reportC name b lv ms ps = (0, lv, ms.set (placeAt ms name).toNat ⟨(rd_T45 ms (placeAt ms name)).f0, b⟩, ps)) := by
  rw [← reportR_eq]
  have hr := (right_iff _ _ _).2 h
  have hbb : ¬ (¬ b = 1 ∧ ¬ b = 2) := by omega
  unfold reportR
  rw [hr]
  by_cases h4 : hasM ms name = true
  · have h4a : ¬ placeAt ms name < 0 := by rw [placeAt_lt0, h4]; decide
    right
    by_cases h5 : b < lv
    · have h5a := (binR_iff h.level hb).2 h5
      left; simp [h4, hbb, h4a, h5, h5a]
    · have h5a : ¬ binR lv b = false := fun g => h5 ((binR_iff h.level hb).1 g)
      right; exact ⟨h4, by omega, by omega, placeAt_lt ms name, by simp [hbb, h4a, h5a]⟩
  · have h4b : hasM ms name = false := by simpa using h4
    have h4a : placeAt ms name < 0 := by rw [placeAt_lt0, h4b]
    left; simp [h4b, hbb, h4a]
theorem placeE_zero' (h : RightP lv ms ps) {s : Int} (h0 : 0 ≤ s) (h1 : s < ps.length) : placeE s lv ms ps = 0 := by
  rw [placeE_right ((right_iff _ _ _).2 h), if_neg (by omega), if_neg (by omega)]
theorem plan_spec (h : RightP lv ms ps) (s t : Int) (h0 : 0 ≤ s) :
    (∃ e, e ≠ 0 ∧ planC s t lv ms ps = (e, lv, ms, ps)) ∨ (s < ps.length ∧ hasM ms t = true ∧ (rd_T48 ps s).f2 = 0 ∧ ¬ (rd_T48 ps s).f0 = t ∧ planC s t lv ms ps = (0, lv, ms, ps.set s.toNat ⟨(rd_T48 ps s).f0, (rd_T48 ps s).f1, t⟩)) := by
  rw [← planR_eq]
  unfold planR
  by_cases hs : s < ps.length
  · rw [placeE_zero' h h0 hs]
    by_cases h1 : placeAt ms t < 0
    · left; exact ⟨70, by decide, by simp [h1]⟩
    · have h1a : hasM ms t = true := (placeAt_nonneg ms t).1 (by omega)
      by_cases h2 : (rd_T48 ps s).f2 = 0
      · by_cases h3 : (rd_T48 ps s).f0 = t
        · left; exact ⟨1, by decide, by simp [h1, h2, h3]⟩
        · by_cases h4 : (rd_T48 ps s).f1 = 9007199254740992
          · left; exact ⟨50, by decide, by simp [h1, h2, h3, h4]⟩
          · right; exact ⟨hs, h1a, h2, h3, by simp [h1, h2, h3, h4]⟩
      · left; exact ⟨92, by decide, by simp [h1, h2]⟩
  · left
    have : placeE s lv ms ps = 83 := by rw [placeE_right ((right_iff _ _ _).2 h), if_neg (by omega), if_pos (by omega)]
    exact ⟨83, by decide, by simp [this]⟩
/-- A plan that is granted: all that it needs. -/
theorem plan_ok (h : RightP lv ms ps) {s t : Int} (h0 : 0 ≤ s) (hs : s < ps.length) (ht : hasM ms t = true) (h2 : (rd_T48 ps s).f2 = 0) (h3 : ¬ (rd_T48 ps s).f0 = t) (h4 : (rd_T48 ps s).f1 < 9007199254740992) :
    planC s t lv ms ps = (0, lv, ms, ps.set s.toNat ⟨(rd_T48 ps s).f0, (rd_T48 ps s).f1, t⟩) := by
  rw [← planR_eq]
  unfold planR
  rw [placeE_zero' h h0 hs]
  have h1 : ¬ placeAt ms t < 0 := by rw [placeAt_lt0, ht]; decide
  have h5 : ¬ (rd_T48 ps s).f1 = 9007199254740992 := by omega
  simp [h1, h2, h3, h5]
theorem commit_spec (h : RightP lv ms ps) (s : Int) (h0 : 0 ≤ s) :
    (∃ e, e ≠ 0 ∧ commitC s lv ms ps = (e, lv, ms, ps)) ∨ (s < ps.length ∧ ¬ (rd_T48 ps s).f2 = 0 ∧ (rd_T48 ps s).f1 < 9007199254740992 ∧ commitC s lv ms ps = (0, lv, ms, ps.set s.toNat ⟨(rd_T48 ps s).f2, (rd_T48 ps s).f1 + 1, 0⟩)) := by
  unfold commitC placedC changedC fPlaced pfCommit
  rw [(right_iff _ _ _).2 h]
  by_cases hs : s < ps.length
  · have hn : ¬ s < 0 := by omega
    have hn2 : ¬ (ps.length : Int) ≤ s := by omega
    obtain ⟨g1, g2, g3, g4⟩ := h.ok _ (rd_mem (s := s) (ps := ps) h0 hs)
    by_cases h2 : (rd_T48 ps s).f2 = 0
    · left; exact ⟨70, by decide, by simp [hn, hn2, h2]⟩
    · by_cases h3 : (rd_T48 ps s).f1 = 9007199254740992
      · left; exact ⟨50, by decide, by simp [hn, hn2, h2, h3]⟩
      · right; exact ⟨hs, h2, by omega, by simp [hn, hn2, h2, h3, wrap_up g2 g3]⟩
  · have hn : ¬ s < 0 := by omega
    have hn2 : (ps.length : Int) ≤ s := by omega
    left; exact ⟨83, by decide, by simp [hn, hn2]⟩
theorem commit_ok (h : RightP lv ms ps) {s : Int} (h0 : 0 ≤ s) (hs : s < ps.length) (h2 : ¬ (rd_T48 ps s).f2 = 0) (h4 : (rd_T48 ps s).f1 < 9007199254740992) :
    commitC s lv ms ps = (0, lv, ms, ps.set s.toNat ⟨(rd_T48 ps s).f2, (rd_T48 ps s).f1 + 1, 0⟩) := by
  rcases commit_spec h s h0 with ⟨e, he, h5⟩ | ⟨_, _, _, h5⟩
  · exfalso
    revert h5
    unfold commitC placedC changedC fPlaced pfCommit
    rw [(right_iff _ _ _).2 h]
    have hn : ¬ s < 0 := by omega
    have hn2 : ¬ (ps.length : Int) ≤ s := by omega
    have h3 : ¬ (rd_T48 ps s).f1 = 9007199254740992 := by omega
    simp [hn, hn2, h2, h3]
    intro h6; exact absurd h6.symm he
  · exact h5
theorem cancel_spec (h : RightP lv ms ps) (s : Int) (h0 : 0 ≤ s) :
    (∃ e, e ≠ 0 ∧ cancelC s lv ms ps = (e, lv, ms, ps)) ∨ (s < ps.length ∧ ¬ (rd_T48 ps s).f2 = 0 ∧ cancelC s lv ms ps = (0, lv, ms, ps.set s.toNat ⟨(rd_T48 ps s).f0, (rd_T48 ps s).f1, 0⟩)) := by
  unfold cancelC placedC changedC fPlaced pfCancel
  rw [(right_iff _ _ _).2 h]
  by_cases hs : s < ps.length
  · have hn : ¬ s < 0 := by omega
    have hn2 : ¬ (ps.length : Int) ≤ s := by omega
    by_cases h2 : (rd_T48 ps s).f2 = 0
    · left; exact ⟨70, by decide, by simp [hn, hn2, h2]⟩
    · right; exact ⟨hs, h2, by simp [hn, hn2, h2]⟩
  · have hn : ¬ s < 0 := by omega
    have hn2 : (ps.length : Int) ≤ s := by omega
    left; exact ⟨83, by decide, by simp [hn, hn2]⟩
theorem cancel_ok (h : RightP lv ms ps) {s : Int} (h0 : 0 ≤ s) (hs : s < ps.length) (h2 : ¬ (rd_T48 ps s).f2 = 0) :
    cancelC s lv ms ps = (0, lv, ms, ps.set s.toNat ⟨(rd_T48 ps s).f0, (rd_T48 ps s).f1, 0⟩) := by
  unfold cancelC placedC changedC fPlaced pfCancel
  rw [(right_iff _ _ _).2 h]
  have hn : ¬ s < 0 := by omega
  have hn2 : ¬ (ps.length : Int) ≤ s := by omega
  simp [hn, hn2, h2]

/-- What is known of a raw controller behind k steps. -/
structure Good (k : Nat) (c : Ctl) : Prop where
  right : RightP c.1 c.2.1 c.2.2
  names : ∀ m ∈ c.2.1, m.f0 ≤ 10
  epochs : ∀ p ∈ c.2.2, p.f1 ≤ k + 1
theorem Good.up {k : Nat} {c : Ctl} (h : Good k c) : Good (k + 1) c := ⟨h.right, h.names, fun p hp => by have := h.epochs p hp; omega⟩
theorem good_new (n b : Int) (hn0 : 1 ≤ n) (hn1 : n ≤ 8) (hb : b = 1 ∨ b = 2) : Good 0 (newC n 5 b) := by
  have hs : sizeC n = n.toNat := by unfold sizeC; omega
  have hok : RightP 1 [⟨5, b⟩] (List.replicate (sizeC n) ⟨5, 1, 0⟩) := by
    refine ⟨Or.inl rfl, ⟨(show (0 : Int) < 5 by decide), (show (5 : Int) ≤ 100 by decide), hb, (show 1 ≤ b by omega), trivial⟩, Nat.le_refl 1, (show 1 ≤ 8 by decide), by rw [List.length_replicate]; omega, by rw [List.length_replicate]; omega, fun p hp => ?_⟩
    rw [(List.mem_replicate.1 hp).2]
    exact ⟨(hasM_iff _ _).2 ⟨⟨5, b⟩, by simp, rfl⟩, by decide, by decide, Or.inl rfl⟩
  unfold newC
  rw [if_pos ((right_iff _ _ _).2 hok)]
  refine ⟨hok, fun m hm => ?_, fun p hp => ?_⟩
  · simp at hm; subst hm; show (5 : Int) ≤ 10; decide
  · rw [(List.mem_replicate.1 hp).2]; decide
variable {k : Nat} {c : Ctl}
theorem good_fin (h : Good k c) : Good k (finC c.1 c.2.1 c.2.2).2 := by
  rcases fin_spec h.right with ⟨h2, e⟩ | ⟨_, e⟩
  · rw [e]; exact ⟨right_fin h.right h2, h.names, h.epochs⟩
  · rw [e]; exact h
theorem good_join (h : Good k c) {name b : Int} (h0 : 1 ≤ name) (h1 : name ≤ 10) (hb : b = 1 ∨ b = 2) : Good k (joinC name b c.1 c.2.1 c.2.2).2 := by
  rcases join_spec h.right name b h0 (by omega) hb with ⟨_, e⟩ | ⟨_, _, e⟩ | ⟨_, _, _, e⟩ | ⟨h2, h3, h4, e⟩
  · rw [e]; exact h
  · rw [e]; exact h
  · rw [e]; exact h
  · rw [e]
    refine ⟨right_join h.right h0 (show name ≤ 100 by omega) hb h3 h2 h4, fun m hm => ?_, h.epochs⟩
    rcases (insGo_mem _ _ _).1 hm with e2 | e2
    · subst e2; exact h1
    · exact h.names m e2
theorem good_report (h : Good k c) {name b : Int} (hb : b = 1 ∨ b = 2) : Good k (reportC name b c.1 c.2.1 c.2.2).2 := by
  rcases report_spec h.right name b hb with ⟨_, e⟩ | ⟨_, _, e⟩ | ⟨_, h2, h3, h4, e⟩
  · rw [e]; exact h
  · rw [e]; exact h
  · rw [e]
    have hi : (placeAt c.2.1 name).toNat < c.2.1.length := by omega
    have e2 : rd_T45 c.2.1 (placeAt c.2.1 name) = c.2.1[(placeAt c.2.1 name).toNat] := by
      unfold rd_T45
      rw [List.getD_eq_getElem?_getD, List.getElem?_eq_getElem hi, Option.getD_some]
    rw [e2]
    refine ⟨right_report h.right hb h2 hi, fun m hm => ?_, h.epochs⟩
    rcases List.mem_or_eq_of_mem_set hm with g | g
    · exact h.names m g
    · subst g; exact (h.names _ (List.getElem_mem hi) :)
theorem good_set (h : Good k c) {i : Nat} {q : Pla} (hq : PlaceOk c.2.1 q) (he : q.f1 ≤ k + 1) : Good k (c.1, c.2.1, c.2.2.set i q) :=
  ⟨right_set h.right hq, h.names, fun p hp => by
    rcases List.mem_or_eq_of_mem_set hp with g | g
    · exact h.epochs p g
    · subst g; exact he⟩
theorem good_plan (h : Good k c) {s t : Int} (h0 : 0 ≤ s) : Good k (planC s t c.1 c.2.1 c.2.2).2 := by
  rcases plan_spec h.right s t h0 with ⟨_, _, e⟩ | ⟨hs, h2, h3, h4, e⟩
  · rw [e]; exact h
  · rw [e]
    have hm := rd_mem h0 hs
    obtain ⟨g1, g2, g3, g4⟩ := h.right.ok _ hm
    exact good_set h ⟨g1, g2, g3, Or.inr ⟨h2, fun e => h4 e.symm⟩⟩ (h.epochs _ hm :)
theorem good_cancel (h : Good k c) {s : Int} (h0 : 0 ≤ s) : Good k (cancelC s c.1 c.2.1 c.2.2).2 := by
  rcases cancel_spec h.right s h0 with ⟨_, _, e⟩ | ⟨hs, h2, e⟩
  · rw [e]; exact h
  · rw [e]
    have hm := rd_mem h0 hs
    obtain ⟨g1, g2, g3, g4⟩ := h.right.ok _ hm
    exact good_set h ⟨g1, g2, g3, Or.inl rfl⟩ (h.epochs _ hm :)
theorem good_commit (h : Good k c) {s : Int} (h0 : 0 ≤ s) : Good (k + 1) (commitC s c.1 c.2.1 c.2.2).2 := by
  rcases commit_spec h.right s h0 with ⟨_, _, e⟩ | ⟨hs, h2, h3, e⟩
  · rw [e]; exact h.up
  · rw [e]
    have hm := rd_mem h0 hs
    obtain ⟨g1, g2, g3, g4⟩ := h.right.ok _ hm
    have g5 : hasM c.2.1 (rd_T48 c.2.2 s).f2 = true := by rcases g4 with g | g; exact absurd g h2; exact g.1
    have := h.epochs _ hm
    exact good_set h.up ⟨g5, (show 1 ≤ _ + 1 by omega), (show _ + 1 ≤ _ by omega), Or.inl rfl⟩ (show _ + 1 ≤ _ by simp; omega)
theorem good_step (h : Good k c) (x : S53) : Good (k + 1) (stepC x c) := by
  obtain ⟨b1, b2⟩ := pickI_bound x.f1 8 (by decide)
  obtain ⟨b3, b4⟩ := pickI_bound x.f2 10 (by decide)
  obtain ⟨b5, b6⟩ := pickI_bound x.f1 2 (by decide)
  unfold stepC
  simp only []
  rw [joinR_eq, reportR_eq, finR_eq, planR_eq, commitR_eq, cancelR_eq]
  split
  · exact (good_join h (by omega) (by omega) (by omega)).up
  split
  · exact (good_report h (by omega)).up
  split
  · exact (good_fin h).up
  split
  · exact (good_plan h b1).up
  split
  · exact good_commit h b1
  · exact (good_cancel h b1).up
theorem good_steps : ∀ (l : List S53) {k : Nat} {c : Ctl}, Good k c → Good (k + l.length) (l.foldl (fun c x => stepC x c) c)
  | [], k, c, h => h
  | x :: l, k, c, h => by
    have := good_steps l (good_step h x)
    rw [List.foldl_cons, List.length_cons]
    rwa [show k + (l.length + 1) = k + 1 + l.length by omega]
theorem good_control (shards bin : Int) (raw : List S53) : Good 30 (controlC shards bin raw) := by
  unfold controlC startC
  obtain ⟨b1, b2⟩ := pickI_bound shards 8 (by decide)
  obtain ⟨b3, b4⟩ := pickI_bound bin 2 (by decide)
  have h := good_steps (raw.take 30) (good_new (1 + pickI shards 8) (1 + pickI bin 2) (by omega) (by omega) (by omega))
  exact ⟨h.right, h.names, fun p hp => by
    have h1 := h.epochs p hp
    have h2 : (raw.take 30).length ≤ 30 := List.length_take_le ..
    omega⟩
end Go.Proofs.Ytdbgpakmbjhmgaa.H

/- Plain law of ControlBack; the same, told. -/
namespace Go.Proofs.Ytdbgpakmbjhmgaa.H
open Go.RowKit Go.Proofs.YtdbgpakmbjhmgaaW.PrintWords Go.Proofs.YtdbgpakmbjhmgaaW.PrintLast Go.Proofs.YtdbgpakmbjhmgaaW.PrintMore
set_option linter.unusedVariables false
set_option linter.unusedSimpArgs false

def sameK (a b : Ctl) : Bool := sameC a.1 a.2.1 a.2.2 b.1 b.2.1 b.2.2
theorem sameK_yes {a b : Ctl} (h : a = b) : sameK a b = true := by subst h; simp [sameK, sameC]
theorem sameK_no {a b : Ctl} (h : ¬ a = b) : sameK a b = false := by
  unfold sameK sameC
  refine decide_eq_false fun ⟨h1, h2, h3⟩ => h ?_
  obtain ⟨x, y, z⟩ := a
  obtain ⟨x', y', z'⟩ := b
  simp only at h1 h2 h3
  rw [h1, h2, h3]
theorem Good.short {k : Nat} {c : Ctl} (h : Good k c) : Short c := ⟨by have := h.right.m8; omega, by have := h.right.p8; omega⟩
theorem rd_get (ms : List Mem) {i : Int} (h0 : 0 ≤ i) (h1 : i < ms.length) : rd_T45 ms i = ms[i.toNat]'(by omega) := by
  unfold rd_T45
  rw [List.getD_eq_getElem?_getD, List.getElem?_eq_getElem (by omega), Option.getD_some]
theorem rd_memM {s : Int} {ms : List Mem} (h0 : 0 ≤ s) (h1 : s < ms.length) : rd_T45 ms s ∈ ms := by
  rw [rd_get ms h0 h1]; exact List.getElem_mem _
theorem idx_at {α : Type} (p : α → Bool) : ∀ (l : List α) (n i : Nat) (h : i < l.length), p l[i] = true → (∀ j (hj : j < i), p (l[j]'(by omega)) = false) → idx p l n = ((n + i : Nat) : Int)
  | x :: l, n, 0, _, h1, _ => by
    rw [idx, if_pos (by simpa using h1)]; rfl
  | x :: l, n, i + 1, h, h1, h2 => by
    rw [idx, if_neg (by have := h2 0 (by omega); simp at this; simp [this]), idx_at p l (n + 1) i (by simpa using h) (by simpa using h1) (fun j hj => by have := h2 (j + 1) (by omega); simpa using this)]
    congr 1
    omega
theorem placeAt_of {lv last : Int} {ms : List Mem} (hr : Rise lv ms last) {i : Nat} (h : i < ms.length) : placeAt ms ms[i].f0 = (i : Int) := by
  unfold placeAt
  rw [idx_at (named ms[i].f0) ms 0 i h (by simp [named]) (fun j hj => by
    have := (List.pairwise_iff_getElem.1 (rise_pair hr)) j i (by omega) h hj
    simp [named]; omega)]
  simp
theorem report_at {lv : Int} {ms : List Mem} {ps : List Pla} (h : RightP lv ms ps) {i : Nat} (hi : i < ms.length) {b : Int} (hb : b = 1 ∨ b = 2) (hl : lv ≤ b) : reportC ms[i].f0 b lv ms ps = (0, lv, ms.set i ⟨ms[i].f0, b⟩, ps) := by
  have hp := placeAt_of h.rise hi
  have hm : hasM ms ms[i].f0 = true := (hasM_iff _ _).2 ⟨ms[i], List.getElem_mem _, rfl⟩
  rcases report_spec h ms[i].f0 b hb with ⟨g, _⟩ | ⟨_, g, _⟩ | ⟨_, _, _, _, e⟩
  · rw [hm] at g; cases g
  · omega
  · rw [e, hp]
    have : rd_T45 ms (i : Int) = ms[i] := rd_get ms (by omega) (by omega)
    rw [this]
    simp
theorem cells2 {w : World} {g : Nat} {a b : Value} {t : Nat} (h : w.heap[g]? = some (.cells #[a, b] t (0, 0))) :
    w.cell? ⟨g, 0, none⟩ = some a ∧ w.cell? ⟨g, 1, none⟩ = some b ∧ w.frozen? ⟨g, 0, none⟩ = false ∧ w.frozen? ⟨g, 1, none⟩ = false ∧ g < w.heap.size :=
  ⟨(blk_cell h 0).trans rfl, (blk_cell h 1).trans rfl, blk_frozen h 0, blk_frozen h 1, blk_lt h⟩
def Said (b : Bool) (w : World) (e : Ending) (w' : World) : Prop := e = .returned (.bool b) ∧ Below w.heap.size w w'
theorem same_is {a b : Ctl} {v : Bool} (h : sameK a b = v) {W : World} {A1 A2 B1 B2 : Option Addr} {c1 c2 d1 d2 : Nat}
    (e1 : Kd.C k45 W A1 a.2.1.length a.2.1) (e2 : Kd.C k48 W A2 a.2.2.length a.2.2) (e3 : Kd.C k45 W B1 b.2.1.length b.2.1) (e4 : Kd.C k48 W B2 b.2.2.length b.2.2) :
    Calls Try.prog 11 #[.agg #[.int .i64 a.1, .slice A1 a.2.1.length c1, .slice A2 a.2.2.length c2], .agg #[.int .i64 b.1, .slice B1 b.2.1.length d1, .slice B2 b.2.2.length d2]] W (Said v W) :=
  (same_calls a.1 A1 c1 a.2.1 A2 c2 a.2.2 b.1 B1 d1 b.2.1 B2 d2 b.2.2 W e1 e2 e3 e4).mono fun e w' h2 => ⟨by rw [h2.1, ← h]; rfl, h2.2⟩
theorem right_is {a : Ctl} {v : Bool} (h : rightC a.1 a.2.1 a.2.2 = v) {W : World} {A1 A2 : Option Addr} {c1 c2 : Nat}
    (e1 : Kd.C k45 W A1 a.2.1.length a.2.1) (e2 : Kd.C k48 W A2 a.2.2.length a.2.2) :
    Calls Try.prog 16 #[.agg #[.int .i64 a.1, .slice A1 a.2.1.length c1, .slice A2 a.2.2.length c2]] W (Said v W) :=
  (right_calls a.1 A1 c1 a.2.1 A2 c2 a.2.2 W e1 e2).mono fun e w' h2 => ⟨by rw [h2.1, ← h], h2.2⟩
structure BackLaw (c : Ctl) (m : Mem) (r1 r2 : Int × Ctl) : Prop where
  bin : m.f1 = 1 ∨ m.f1 = 2
  s1 : Short r1.2
  s2 : Short r2.2
  two : c.1 = 2 → r1.1 = 22 ∧ r1.2 = c
  one : ¬ c.1 = 2 → r1.1 = 0 ∧ r2.1 = 0 ∧ r2.2 = c ∧ ¬ r1.2 = c
theorem back_law {k : Nat} {c : Ctl} (h : Good k c) {i : Int} (h0 : 0 ≤ i) (h1 : i < c.2.1.length) (m : Mem) (hm : m = rd_T45 c.2.1 i) (r1 r2 : Int × Ctl) (e1 : r1 = reportC m.f0 (3 - m.f1) c.1 c.2.1 c.2.2) (e2 : r2 = reportC m.f0 m.f1 r1.2.1 r1.2.2.1 r1.2.2.2) : BackLaw c m r1 r2 := by
  have hmem : m ∈ c.2.1 := by rw [hm]; exact rd_memM h0 h1
  obtain ⟨g1, g2, g3, g4⟩ := rise_mem h.right.rise m hmem
  have gb : 3 - m.f1 = 1 ∨ 3 - m.f1 = 2 := by omega
  have hg1 : Good k r1.2 := by rw [e1]; exact good_report h gb
  have hg2 : Good k r2.2 := by rw [e2]; exact good_report hg1 g3
  refine ⟨g3, hg1.short, hg2.short, fun hc => ?_, fun hc => ?_⟩
  · rcases report_spec h.right m.f0 (3 - m.f1) gb with ⟨g, _⟩ | ⟨_, _, e⟩ | ⟨_, g, _⟩
    · rw [(hasM_iff _ _).2 ⟨m, hmem, rfl⟩] at g; cases g
    · rw [e1, e]; exact ⟨rfl, rfl⟩
    · omega
  · have hl : c.1 = 1 := by rcases h.right.level with g | g; exact g; exact absurd g hc
    have hi : i.toNat < c.2.1.length := by omega
    have hmi : m = c.2.1[i.toNat] := hm.trans (rd_get _ h0 h1)
    have er := report_at h.right hi gb (by omega)
    rw [← hmi] at er
    rw [er] at e1
    subst e1
    have hi2 : i.toNat < (c.2.1.set i.toNat ⟨m.f0, 3 - m.f1⟩).length := by rw [List.length_set]; exact hi
    have er2 := report_at hg1.right hi2 g3 (show c.1 ≤ m.f1 by omega)
    simp only [List.getElem_set_self] at er2
    simp only at e2
    rw [er2] at e2
    subst e2
    refine ⟨rfl, rfl, ?_, fun he => ?_⟩
    · show (c.1, (c.2.1.set i.toNat ⟨m.f0, 3 - m.f1⟩).set i.toNat ⟨m.f0, m.f1⟩, c.2.2) = c
      rw [List.set_set, hmi]
      have : (⟨c.2.1[i.toNat].f0, c.2.1[i.toNat].f1⟩ : Mem) = c.2.1[i.toNat] := rfl
      rw [this, List.set_getElem_self]
    · have h5 : c.2.1.set i.toNat ⟨m.f0, 3 - m.f1⟩ = c.2.1 := congrArg (fun x : Ctl => x.2.1) he
      have h6 : (c.2.1.set i.toNat ⟨m.f0, 3 - m.f1⟩)[i.toNat]'hi2 = c.2.1[i.toNat] := by simp only [h5]
      rw [List.getElem_set_self, ← hmi] at h6
      have h7 : 3 - m.f1 = m.f1 := congrArg (fun x : Mem => x.f1) h6
      omega
end Go.Proofs.Ytdbgpakmbjhmgaa.H
