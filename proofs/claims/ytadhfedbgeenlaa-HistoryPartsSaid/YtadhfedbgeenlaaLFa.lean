/- Arguments opened, by their types' shape: what the reader reads is a value of a kind. -/
import Derived.Test.YtadhfedbgeenlaaB
import Derived.WalkKit
import Derived.ProofKit
import Derived.OpenShut
import Derived.ShutString
import Derived.ChangeOld
import Derived.Below
import Derived.SizedLaws
import Derived.Deep.Slices
namespace Go.Proofs.Ytadhfedbgeenlaa.Open
open Go.RowKit Go.Proofs.YtadhfedbgeenlaaW.PrintWords Go.Proofs.YtadhfedbgeenlaaW.PrintLast Go.Proofs.YtadhfedbgeenlaaW.PrintMore Go.ChangeShapes Go.WideShapes Go.Deep
set_option linter.unusedVariables false
set_option linter.unusedSimpArgs false

/-- Whatever the reader reads at type T is a value of the kind d that meets ok. -/
def Opens {α : Type} (P : Program) (T : TypeId) (d : Kd α) (ok : α → Prop) : Prop :=
  ∀ (H : Type) (enc : TypeId × Value → H) (w : World) (base : Nat) (spare : Nat → Bool) (held : Bool) (fuel : Nat) (cs : List Value) (x : DataW H × List MemPlace), DataW.trod enc P w base spare held fuel T cs = some x → ∃ a, d.K w a cs ∧ ok a
def InK (k : IntKind) (n : Int) : Prop := (Lit.int k n).wf = true
theorem opens_int {P : Program} {T : TypeId} {k : IntKind} (ht : P.underlying T = some (.int k)) : Opens P T (Kd.int k) (InK k) := by
  intro H enc w base spare held fuel cs x h
  obtain ⟨n, rfl, _, hw⟩ := DataW.trod_int ht h
  exact ⟨n, rfl, hw⟩
theorem opens_bool {P : Program} {T : TypeId} (ht : P.underlying T = some .bool) : Opens P T Kd.bool (fun _ => True) := by
  intro H enc w base spare held fuel cs x h
  obtain ⟨n, rfl, _⟩ := DataW.trod_bool ht h
  exact ⟨n, rfl, trivial⟩
theorem opens_string {P : Program} {T : TypeId} (ht : P.underlying T = some .string) : Opens P T Kd.string (fun s => s.size ≤ maxLen) := by
  intro H enc w base spare held fuel cs x h
  obtain ⟨n, rfl, _, hs⟩ := DataW.trod_string ht h
  exact ⟨n, rfl, hs⟩
theorem Opens.iso {α β : Type} {P : Program} {T : TypeId} {d : Kd α} {ok : α → Prop} (h : Opens P T d ok) (f : β → α) (g : α → β) (hg : ∀ a, f (g a) = a) : Opens P T (Kd.iso d f) (fun b => ok (f b)) := by
  intro H enc w base spare held fuel cs x hx
  obtain ⟨a, h1, h2⟩ := h H enc w base spare held fuel cs x hx
  exact ⟨g a, by show d.K w (f (g a)) cs; rw [hg]; exact h1, by show ok (f (g a)); rw [hg]; exact h2⟩
theorem Opens.imp {α : Type} {P : Program} {T : TypeId} {d : Kd α} {ok ok' : α → Prop} (h : Opens P T d ok) (hi : ∀ a, ok a → ok' a) : Opens P T d ok' := by
  intro H enc w base spare held fuel cs x hx
  obtain ⟨a, h1, h2⟩ := h H enc w base spare held fuel cs x hx
  exact ⟨a, h1, hi a h2⟩
/-- Parts in a row, each of a type, at its place: from place o on. -/
def OpensFs {α : Type} (P : Program) (fs : List (TypeId × Nat)) (o : Nat) (d : Kd α) (ok : α → Prop) : Prop :=
  ∀ (H : Type) (enc : TypeId × Value → H) (w : World) (base : Nat) (spare : Nat → Bool) (held : Bool) (n : Nat) (cs : List Value), cs.length = o + d.sz →
    (∀ f ∈ fs, ∃ y, DataW.trod enc P w base spare held n f.1 ((cs.drop f.2).take (P.cellsOf f.1)) = some y) → ∃ a, d.K w a (cs.drop o) ∧ ok a
theorem OpensFs.last {α : Type} {P : Program} {t : TypeId} {o : Nat} {d : Kd α} {ok : α → Prop} (h : Opens P t d ok) (hc : P.cellsOf t = d.sz) : OpensFs P [(t, o)] o d ok := by
  intro H enc w base spare held n cs hl hf
  obtain ⟨y, hy⟩ := hf (t, o) (by simp)
  have : (cs.drop o).take (P.cellsOf t) = cs.drop o := List.take_of_length_le (by rw [List.length_drop, hl, hc]; omega)
  simp only [this] at hy
  exact h H enc w base spare held n _ y hy
theorem OpensFs.cons {α β : Type} {P : Program} {t : TypeId} {o : Nat} {d : Kd α} {ok : α → Prop} {fs : List (TypeId × Nat)} {d2 : Kd β} {ok2 : β → Prop} (h : Opens P t d ok) (hc : P.cellsOf t = d.sz) (h2 : OpensFs P fs (o + d.sz) d2 ok2) :
    OpensFs P ((t, o) :: fs) o (Kd.pair d d2) (fun x => ok x.1 ∧ ok2 x.2) := by
  intro H enc w base spare held n cs hl hf
  obtain ⟨y, hy⟩ := hf (t, o) (by simp)
  obtain ⟨a, ha, hoa⟩ := h H enc w base spare held n _ y hy
  obtain ⟨b, hb, hob⟩ := h2 H enc w base spare held n cs (by rw [hl]; show o + (d.sz + d2.sz) = _; omega) (fun f hm => hf f (List.mem_cons_of_mem _ hm))
  refine ⟨(a, b), ⟨_, _, ?_, ha, hb⟩, hoa, hob⟩
  simp only [hc]
  rw [← List.drop_drop, List.take_append_drop]
theorem opens_struct {α : Type} {P : Program} {T : TypeId} {fs : Array Field} {d : Kd α} {ok : α → Prop} (ht : P.underlying T = some (.struct fs)) (hc : P.cellsOf T = d.sz) (h : OpensFs P (fs.toList.map fun f => (f.type, f.offset)) 0 d ok) : Opens P T d ok := by
  intro H enc w base spare held fuel cs x hx
  obtain ⟨xs, n, _, _, hl, hlen, hf⟩ := DataW.trod_struct ht hx
  refine h H enc w base spare held n cs (by rw [hl, hc]; omega) fun f hm => ?_
  obtain ⟨f', hf', rfl⟩ := List.mem_map.1 hm
  obtain ⟨i, hi, e⟩ := List.getElem_of_mem hf'
  have hi2 : i < fs.size := by simpa using hi
  have := hf i f' (by rw [Array.getElem?_eq_getElem hi2]; simpa using e)
  rw [List.getElem?_eq_getElem (by omega)] at this
  exact ⟨_, this⟩
theorem opens_array {α : Type} {P : Program} {T e : TypeId} {n : Nat} {d : Kd α} {ok : α → Prop} (ht : P.underlying T = some (.array n e)) (hc : P.cellsOf T = d.sz) (h : OpensFs P ((List.range n).map fun i => (e, i * P.cellsOf e)) 0 d ok) : Opens P T d ok := by
  intro H enc w base spare held fuel cs x hx
  obtain ⟨xs, m, _, _, hl, hlen, hf⟩ := DataW.trod_array ht hx
  refine h H enc w base spare held m cs (by rw [hl, hc]; omega) fun f hm => ?_
  obtain ⟨i, hi, rfl⟩ := List.mem_map.1 hm
  have hi2 := List.mem_range.1 hi
  have := hf i hi2
  rw [List.getElem?_eq_getElem (by omega)] at this
  exact ⟨_, this⟩
theorem list_of {α : Type} {Q : Nat → α → Prop} : ∀ n : Nat, (∀ i, i < n → ∃ a, Q i a) → ∃ l : List α, l.length = n ∧ ∀ i a, l[i]? = some a → Q i a
  | 0, _ => ⟨[], rfl, fun i a h => by simp at h⟩
  | n + 1, h => by
    obtain ⟨l, hl, hq⟩ := list_of n (fun i hi => h i (by omega))
    obtain ⟨a, ha⟩ := h n (by omega)
    refine ⟨l ++ [a], by simp [hl], fun i b hb => ?_⟩
    by_cases hi : i < n
    · rw [List.getElem?_append_left (by omega)] at hb
      exact hq i b hb
    · rw [List.getElem?_append_right (by omega)] at hb
      have : i - l.length = 0 := by
        by_cases h0 : i - l.length = 0
        · exact h0
        · rw [List.getElem?_eq_none (by simp; omega)] at hb; cases hb
      rw [this] at hb
      have hin : i = n := by omega
      simp at hb
      rw [hin, ← hb]; exact ha
theorem opens_slice {α : Type} {P : Program} {T e : TypeId} {d : Kd α} {ok : α → Prop} (ht : P.underlying T = some (.slice e)) (hc : P.cellsOf e = d.sz) (h : Opens P e d ok) : Opens P T (Kd.slice e d) (fun l => ∀ a ∈ l, ok a) := by
  intro H enc w base spare held fuel cs x hx
  rcases open_slice ht hx with ⟨rfl, _⟩ | ⟨a, len, cap, m, n, D, Pl, rfl, hb, hl, hm, hmm, _, hi⟩
  · exact ⟨[], ⟨none, 0, rfl, Nat.le_refl _, rfl, Nat.zero_le _, fun h => by cases h⟩, fun a h => by cases h⟩
  · have hlm : len ≤ m := by rw [hmm]; split <;> omega
    obtain ⟨l, hll, hq⟩ := list_of (Q := fun i (b : α) => ok b ∧ ∃ c, c.length = d.sz ∧ d.K w b c ∧ ∀ j u, c[j]? = some u → w.cell? (a.add (i * d.sz + j)) = some u) len (fun i hil => by
      obtain ⟨cs', h1, h2⟩ := hi i (by omega)
      obtain ⟨b, hb1, hb2⟩ := h H enc w base spare held n cs' _ h2
      rw [hc] at h1
      obtain ⟨_, hcl, hat⟩ := World.cells?_some h1
      refine ⟨b, hb2, cs', hcl, hb1, fun j u hj => ?_⟩
      have hjl : j < d.sz := by have := (List.getElem?_eq_some_iff.1 hj).1; omega
      rw [← Go.Deep.add_add, hat j hjl, hj])
    subst hll
    refine ⟨l, ⟨some a, cap, rfl, hl, rfl, ?_, fun _ => ⟨a, rfl, fun j p hp => (hq j p hp).2⟩⟩, fun b hb => ?_⟩
    · have : cap ≤ maxLen := hm
      unfold maxLen at this
      omega
    · obtain ⟨i, hi, e⟩ := List.getElem_of_mem hb
      exact (hq i b (by rw [List.getElem?_eq_getElem hi, e])).1
/-- An argument that is a slice, opened. -/
theorem slice_arg {α : Type} {P : Program} {T e : TypeId} {d : Kd α} {ok : List α → Prop} (h : Opens P T (Kd.slice e d) ok) {H : Type} {enc : TypeId × Value → H} {w : World} {base : Nat} {spare : Nat → Bool} {held : Bool} {v : Value} {x : DataW H} {ps : List MemPlace}
    {r : Reach} {b0 : Nat} (ht : P.underlying T = some (.slice e)) (hv : Value.okWide P w r b0 T v) (hd : DataW.Trod enc P w base spare held T v x ps) : ∃ A c l, v = .slice A l.length c ∧ l.length ≤ c ∧ Kd.C d w A l.length l ∧ ok l := by
  obtain ⟨a, len, cap, rfl⟩ := okWide_slice ht hv
  obtain ⟨fuel, hf⟩ := hd
  obtain ⟨l, ⟨A, c, e1, h2, h3⟩, h4⟩ := h H enc w base spare held fuel _ _ hf
  have e2 : [Value.slice a len cap] = [.slice A l.length c] := e1
  injection e2 with e2
  injection e2 with e2 e3 e4
  subst e2; subst e4
  exact ⟨_, _, l, by rw [e3], h2, h3, h4⟩
end Go.Proofs.Ytadhfedbgeenlaa.Open
