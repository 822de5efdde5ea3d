/- The arguments of the laws of history, opened. -/
import Derived.Test.YtadhfedbgeenlaaLFa
import Derived.Test.YtadhfedbgeenlaaQ9
namespace Go.Proofs.Ytadhfedbgeenlaa.Open
open Go.RowKit Go.Proofs.YtadhfedbgeenlaaW.PrintWords Go.Proofs.YtadhfedbgeenlaaW.PrintLast Go.Proofs.YtadhfedbgeenlaaW.PrintMore Go.ChangeShapes Go.WideShapes Go.Deep Go.Proofs.Ytadhfedbgeenlaa.H
set_option linter.unusedVariables false
set_option linter.unusedSimpArgs false

theorem inI {n : Int} (h : InK .i64 n) : InI n := bounds_i64 h
def offs (P : Program) (t : TypeId) : List (TypeId × Nat) := match P.underlying t with
  | some (.struct fs) => fs.toList.map fun f => (f.type, f.offset)
  | _ => []
theorem opens_of {α : Type} {P : Program} {T : TypeId} {d : Kd α} {ok : α → Prop} {fs : Array Field} (ht : P.underlying T = some (.struct fs)) (hc : P.cellsOf T = d.sz) {l : List (TypeId × Nat)} (hl : offs P T = l) (h : OpensFs P l 0 d ok) : Opens P T d ok :=
  opens_struct ht hc (by
    have e : (fs.toList.map fun f => (f.type, f.offset)) = l := by rw [← hl]; unfold offs; rw [ht]
    rw [e]; exact h)
theorem o_int : Opens Try.prog 3 (Kd.int .i64) (InK .i64) := opens_int Try.underlying3
theorem c_int : Try.prog.cellsOf 3 = (Kd.int .i64).sz := by kernel_rfl
theorem o_err : Opens Try.prog 31 (Kd.int .i64) (InK .i64) := opens_int Try.underlying31
theorem c_err : Try.prog.cellsOf 31 = (Kd.int .i64).sz := by kernel_rfl
theorem o_str : Opens Try.prog 9 Kd.string (fun s => s.size ≤ maxLen) := opens_string Try.underlying9
theorem c_str : Try.prog.cellsOf 9 = Kd.string.sz := by kernel_rfl
theorem o_bool : Opens Try.prog 4 Kd.bool (fun _ => True) := opens_bool Try.underlying4
theorem c_bool : Try.prog.cellsOf 4 = Kd.bool.sz := by kernel_rfl
set_option maxRecDepth 10000 in
theorem opens_raw : Opens Try.prog 22 (Kd.slice 58 k58) (fun l => ∀ x ∈ l, InR x) := by
  have he : ((List.range 5).map fun i => ((3 : TypeId), i * Try.prog.cellsOf 3)) = [(3, 0), (3, 1), (3, 2), (3, 3), (3, 4)] := by kernel_rfl
  have h3 : Opens Try.prog 58 (Kd.pair (Kd.int .i64) (Kd.pair (Kd.int .i64) (Kd.pair (Kd.int .i64) (Kd.pair (Kd.int .i64) (Kd.int .i64))))) _ := opens_array Try.underlying58 (by kernel_rfl) (by rw [he]; exact OpensFs.cons o_int c_int (OpensFs.cons o_int c_int (OpensFs.cons o_int c_int (OpensFs.cons o_int c_int (OpensFs.last o_int c_int)))))
  have h4 : Opens Try.prog 22 (Kd.slice 58 k58) _ := opens_slice Try.underlying22 (by kernel_rfl) (h3.iso (fun x : S58 => (x.f0, x.f1, x.f2, x.f3, x.f4)) (fun a => ⟨a.1, a.2.1, a.2.2.1, a.2.2.2.1, a.2.2.2.2⟩) (fun _ => rfl))
  exact Opens.imp (ok' := fun l => ∀ x ∈ l, InR x) h4 fun l h x hx => ⟨inI (h x hx).1, inI (h x hx).2.1, inI (h x hx).2.2.1, inI (h x hx).2.2.2.1, inI (h x hx).2.2.2.2⟩
theorem opens_known : Opens Try.prog 23 (Kd.slice 3 (Kd.int .i64)) (fun l => ∀ x ∈ l, InI x) :=
  Opens.imp (ok' := fun l => ∀ x ∈ l, InI x) (opens_slice Try.underlying23 c_int o_int) fun l h x hx => inI (h x hx)
set_option maxRecDepth 10000 in
theorem o_op : Opens Try.prog 36 k36 (fun _ => True) :=
  Opens.imp (Opens.iso (opens_of Try.underlying36 (d := Kd.pair (Kd.int .i64) (Kd.pair Kd.string (Kd.pair Kd.string (Kd.pair (Kd.int .i64) (Kd.pair Kd.string (Kd.pair (Kd.int .i64) Kd.string)))))) (by kernel_rfl) (l := [(3, 0), (9, 1), (9, 2), (3, 3), (9, 4), (3, 5), (9, 6)]) (by kernel_rfl) (OpensFs.cons o_int c_int (OpensFs.cons o_str c_str (OpensFs.cons o_str c_str (OpensFs.cons o_int c_int (OpensFs.cons o_str c_str (OpensFs.cons o_int c_int (OpensFs.last o_str c_str)))))))) (fun x : S36 => (x.f0, x.f1, x.f2, x.f3, x.f4, x.f5, x.f6)) (fun a => ⟨a.1, a.2.1, a.2.2.1, a.2.2.2.1, a.2.2.2.2.1, a.2.2.2.2.2.1, a.2.2.2.2.2.2⟩) (fun _ => rfl)) (fun _ _ => trivial)
theorem c_op : Try.prog.cellsOf 36 = k36.sz := by kernel_rfl
set_option maxRecDepth 10000 in
theorem o_reply : Opens Try.prog 34 k34 (fun _ => True) := by
  have h1 : Opens Try.prog 32 (Kd.slice 9 Kd.string) _ := opens_slice Try.underlying32 c_str o_str
  exact Opens.imp (Opens.iso (opens_of Try.underlying34 (d := Kd.pair (Kd.int .i64) (Kd.pair (Kd.int .i64) (Kd.pair Kd.string (Kd.slice 9 Kd.string)))) (by kernel_rfl) (l := [(31, 0), (3, 1), (9, 2), (32, 3)]) (by kernel_rfl) (OpensFs.cons o_err c_err (OpensFs.cons o_int c_int (OpensFs.cons o_str c_str (OpensFs.last h1 (by kernel_rfl)))))) (fun x : S34 => (x.f0, x.f1, x.f2, x.f3)) (fun a => ⟨a.1, a.2.1, a.2.2.1, a.2.2.2⟩) (fun _ => rfl)) (fun _ _ => trivial)
theorem c_reply : Try.prog.cellsOf 34 = k34.sz := by kernel_rfl
set_option maxRecDepth 10000 in
theorem opens_any : Opens Try.prog 24 (Kd.slice 38 k38) (fun _ => True) := by
  have h1 : Opens Try.prog 38 k38 _ := Opens.iso (opens_of Try.underlying38 (d := Kd.pair k36 (Kd.pair Kd.bool k34)) (by kernel_rfl) (l := [(36, 0), (4, 7), (34, 8)]) (by kernel_rfl) (OpensFs.cons o_op c_op (OpensFs.cons o_bool c_bool (OpensFs.last o_reply c_reply)))) (fun x : S38 => (x.f0, x.f1, x.f2)) (fun a => ⟨a.1, a.2.1, a.2.2⟩) (fun _ => rfl)
  exact Opens.imp (opens_slice Try.underlying24 (by kernel_rfl) h1) (fun _ _ => trivial)
end Go.Proofs.Ytadhfedbgeenlaa.Open
