/- A controller that comes in by value, opened. -/
import Derived.Test.YtdbgpakmbjhmgaaK6
namespace Go.Proofs.Ytdbgpakmbjhmgaa.Open
open Go.RowKit Go.Proofs.YtdbgpakmbjhmgaaW.PrintWords Go.Proofs.YtdbgpakmbjhmgaaW.PrintLast Go.Proofs.YtdbgpakmbjhmgaaW.PrintMore Go.ChangeShapes Go.WideShapes Go.Deep Go.Proofs.Ytdbgpakmbjhmgaa.H
set_option linter.unusedVariables false
set_option linter.unusedSimpArgs false

def offs (P : Program) (t : TypeId) : List (TypeId × Nat) := match P.underlying t with
  | some (.struct fs) => fs.toList.map fun f => (f.type, f.offset)
  | _ => []
theorem opens_of {α : Type} {P : Program} {T : TypeId} {d : Kd α} {ok : α → Prop} {fs : Array Field} (ht : P.underlying T = some (.struct fs)) (hc : P.cellsOf T = d.sz) {l : List (TypeId × Nat)} (hl : offs P T = l) (h : OpensFs P l 0 d ok) : Opens P T d ok :=
  opens_struct ht hc (by
    have e : (fs.toList.map fun f => (f.type, f.offset)) = l := by rw [← hl]; unfold offs; rw [ht]
    rw [e]; exact h)
theorem o_int : Opens Try.prog 3 (Kd.int .i64) (InK .i64) := opens_int Try.underlying3
theorem c_int : Try.prog.cellsOf 3 = (Kd.int .i64).sz := by kernel_rfl
theorem o_member : Opens Try.prog 45 k45 (fun _ => True) :=
  Opens.imp (Opens.iso (opens_of Try.underlying45 (d := Kd.pair (Kd.int .i64) (Kd.int .i64)) (by kernel_rfl) (l := [(3, 0), (3, 1)]) (by kernel_rfl) (OpensFs.cons o_int c_int (OpensFs.last o_int c_int))) (fun x : S45 => (x.f0, x.f1)) (fun a => ⟨a.1, a.2⟩) (fun _ => rfl)) (fun _ _ => trivial)
theorem o_place : Opens Try.prog 48 k48 (fun _ => True) :=
  Opens.imp (Opens.iso (opens_of Try.underlying48 (d := Kd.pair (Kd.int .i64) (Kd.pair (Kd.int .i64) (Kd.int .i64))) (by kernel_rfl) (l := [(3, 0), (3, 1), (3, 2)]) (by kernel_rfl) (OpensFs.cons o_int c_int (OpensFs.cons o_int c_int (OpensFs.last o_int c_int)))) (fun x : S48 => (x.f0, x.f1, x.f2)) (fun a => ⟨a.1, a.2.1, a.2.2⟩) (fun _ => rfl)) (fun _ _ => trivial)
set_option maxRecDepth 10000 in
theorem o_control : Opens Try.prog 26 k26 (fun _ => True) := by
  have h1 : Opens Try.prog 23 (Kd.slice 45 k45) _ := opens_slice Try.underlying23 (by kernel_rfl) o_member
  have h2 : Opens Try.prog 24 (Kd.slice 48 k48) _ := opens_slice Try.underlying24 (by kernel_rfl) o_place
  exact Opens.imp (Opens.iso (opens_of Try.underlying26 (d := Kd.pair (Kd.int .i64) (Kd.pair (Kd.slice 45 k45) (Kd.slice 48 k48))) (by kernel_rfl) (l := [(3, 0), (23, 1), (24, 2)]) (by kernel_rfl) (OpensFs.cons o_int c_int (OpensFs.cons h1 (by kernel_rfl) (OpensFs.last h2 (by kernel_rfl))))) (fun x : S26 => (x.f0, x.f1, x.f2)) (fun a => ⟨a.1, a.2.1, a.2.2⟩) (fun _ => rfl)) (fun _ _ => trivial)
set_option maxRecDepth 10000 in
theorem control_arg {H : Type} {enc : TypeId × Value → H} {w : World} {base : Nat} {spare : Nat → Bool} {held : Bool} {v : Value} {x : DataW H} {ps : List MemPlace} {r : Reach} {b0 : Nat}
    (hv : Value.okWide Try.prog w r b0 26 v) (hd : DataW.Trod enc Try.prog w base spare held 26 v x ps) :
    ∃ (a : S26) (A1 : Option Addr) (c1 : Nat) (A2 : Option Addr) (c2 : Nat), v = .agg #[.int .i64 a.f0, .slice A1 a.f1.length c1, .slice A2 a.f2.length c2] ∧ Kd.C k45 w A1 a.f1.length a.f1 ∧ Kd.C k48 w A2 a.f2.length a.f2 := by
  obtain ⟨cs, rfl, _⟩ := okWide_struct Try.underlying26 hv
  obtain ⟨fuel, hf⟩ := hd
  obtain ⟨a, ha, _⟩ := o_control H enc w base spare held fuel _ _ hf
  obtain ⟨A1, c1, A2, c2, e, _, h1, _, h2⟩ := k26_open ha
  refine ⟨a, A1, c1, A2, c2, ?_, h1, h2⟩
  have e2 : cs.toList = [.int .i64 a.f0, .slice A1 a.f1.length c1, .slice A2 a.f2.length c2] := e
  have e3 : cs = #[.int .i64 a.f0, .slice A1 a.f1.length c1, .slice A2 a.f2.length c2] := by rw [← Array.toArray_toList (xs := cs), e2]
  rw [e3]
end Go.Proofs.Ytdbgpakmbjhmgaa.Open
