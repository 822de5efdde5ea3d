/- Parts of the proof, merged: Ki, Kj, Kk, Kl, Km. -/
import Derived.Test.YtadhfedbgeenlaaQ4
import Derived.BigRegion
import Derived.Laws.CopyOwn
import Derived.Deep.RegionLaw
import Derived.Lib.Overlaps
import Derived.Lib.AppendZerosOnto
/- The desk's change, and what it is handed. -/
namespace Go.Proofs.Ytadhfedbgeenlaa.H
open Go.RowKit Go.Proofs.YtadhfedbgeenlaaW.PrintWords Go.Proofs.YtadhfedbgeenlaaW.PrintLast Go.Proofs.YtadhfedbgeenlaaW.PrintMore
set_option linter.unusedVariables false
set_option linter.unusedSimpArgs false
/-- The desk, its table's row named; what the records lead to lies in ok. -/
def DeskG (base : Nat) (w0 : World) (d : Nat) (o : S36) (p : Nat) (here : Bool) (l : List S54) (A : Option Addr) (c : Nat) (ok : Nat → Prop) (W : World) : Prop :=
  base ≤ d ∧ Below base w0 W ∧ W.heap[d]? = some (.cells #[.slice A l.length c, .int .i64 o.f0, .string o.f1, .string o.f2, .int .i64 o.f3, .string o.f4, .int .i64 o.f5, .string o.f6, .int .i64 p, .bool here] 75 (0, 0)) ∧ Kd.N k54 54 W base (fun j => (base ≤ j ∧ j ≠ d) ∧ ok j) (.slice A l.length c) l
/-- All blocks but g lie as they lay. -/
def KeepX (g : Nat) (w w' : World) : Prop := w.heap.size ≤ w'.heap.size ∧ ∀ k, k < w.heap.size → k ≠ g → w'.heap[k]? = w.heap[k]?
theorem keepX_set (w : World) (p : Addr) (u : Value) : KeepX p.block w (w.setCell p u) := ⟨by simp, fun k _ hk => Below.heap_setCell w p u k hk⟩
theorem keepX_trans {g : Nat} {a b c : World} (h : KeepX g a b) (k : KeepX g b c) : KeepX g a c := ⟨Nat.le_trans h.1 k.1, fun j hj hg => (k.2 j (Nat.lt_of_lt_of_le hj h.1) hg).trans (h.2 j hj hg)⟩
theorem keepX_at {g k : Nat} {a b : World} {o : Obj} (h : KeepX g a b) (hk : a.heap[k]? = some o) (hg : k ≠ g) : b.heap[k]? = some o := (h.2 k (Array.getElem?_eq_some_iff.1 hk).1 hg).trans hk
/-- All blocks but rows of records and desks lie as they lay. -/
def KeepT (w w' : World) : Prop := w.heap.size ≤ w'.heap.size ∧ ∀ (k : Nat) (cs : Array Value) (t : Nat), w.heap[k]? = some (.cells cs t (0, 0)) → t ≠ 54 → t ≠ 75 → w'.heap[k]? = some (.cells cs t (0, 0))
section
variable {w W W' : World} {g : Nat}
theorem KeepT.trans (h : KeepT w W) (k : KeepT W W') : KeepT w W' := ⟨Nat.le_trans h.1 k.1, fun j cs t hj h1 h2 => k.2 j cs t (h.2 j cs t hj h1 h2) h1 h2⟩
theorem keepT_below (h : Below w.heap.size w W) : KeepT w W := ⟨h.size, fun j cs t hj _ _ => kept_on h hj⟩
theorem keepT_keepX {cs : Array Value} (h : KeepX g w W) (hg : w.heap[g]? = some (.cells cs 54 (0, 0))) : KeepT w W := ⟨h.1, fun j cs' t hj h1 _ => keepX_at h hj (fun e => by subst e; rw [hg] at hj; injection hj with hj; injection hj with _ hj; exact h1 hj.symm)⟩
theorem KeepT.put4 {x y z u : Value} (h : KeepT w W) (hg : w.heap.size ≤ g) : KeepT w (put4 W g x y z u) := ⟨by simpa using h.1, fun j cs t hj h1 h2 => by
  have hl := blk_lt hj
  have hne : j ≠ g := by omega
  exact blk_far (blk_far (blk_far (blk_far (h.2 j cs t hj h1 h2) (p := ⟨g, 0, none⟩) hne _) (p := ⟨g, 1, none⟩) hne _) (p := ⟨g, 2, none⟩) hne _) (p := ⟨g, 3, none⟩) hne _⟩
end
section
variable {base : Nat} {w0 W0 W : World} {d g p : Nat} {o : S36} {here : Bool} {l : List S54} {A : Option Addr} {c : Nat} {ok : Nat → Prop} {x y z u : Value}
theorem DeskG.desk (h : DeskG base w0 d o p here l A c ok W) : DeskW base w0 d o p here l W := ⟨h.1, h.2.1, A, c, h.2.2.1, Kd.N_mono h.2.2.2 (fun _ h => h.1)⟩
theorem DeskG.mono {ok' : Nat → Prop} (h : DeskG base w0 d o p here l A c ok W) (hk : ∀ j, ok j → ok' j) : DeskG base w0 d o p here l A c ok' W := ⟨h.1, h.2.1, h.2.2.1, Kd.N_mono h.2.2.2 (fun j h => ⟨h.1, hk j h.2⟩)⟩
theorem DeskG.bound (h : DeskG base w0 d o p here l A c ok W) : DeskG base w0 d o p here l A c (fun j => ok j ∧ j < W.heap.size) W := ⟨h.1, h.2.1, h.2.2.1, Kd.N_mono (Kd.N_bound h.2.2.2) (fun j h => ⟨h.1.1, h.1.2, h.2⟩)⟩
theorem DeskW.named (h : DeskW base w0 d o p here l W) : ∃ A c, DeskG base w0 d o p here l A c (fun _ => True) W := by
  obtain ⟨h1, h2, A, c, h3, hN⟩ := h
  exact ⟨A, c, h1, h2, h3, Kd.N_mono hN (fun _ h => ⟨h, trivial⟩)⟩
theorem DeskG.row (h : DeskG base w0 d o p here l A c ok W) (hl : 0 < l.length) : ∃ g, A = some ⟨g, 0, none⟩ := by
  obtain ⟨g, cap, he, _, _, _, _⟩ := Kd.N_form h.2.2.2 hl
  injection he with he1 _ he3
  exact ⟨g, he1⟩
theorem DeskG.below (h : DeskG base w0 d o p here l A c ok W0) (hbw : base ≤ W0.heap.size) (hB : Below W0.heap.size W0 W) : DeskG base w0 d o p here l A c ok W := ⟨h.1, below_then h.2.1 hbw hB, kept_on hB h.2.2.1, Kd.N_below h.2.2.2 hB⟩
theorem DeskG.apart (h : DeskG base w0 d o p here l (some ⟨g, 0, none⟩) c ok W) : base ≤ g ∧ g ≠ d ∧ ok g ∧ g < W.heap.size := by
  obtain ⟨h1, h2, h3, h4⟩ := h
  have h5 := h4.1 g (by simp [Value.ownBlock])
  exact ⟨h5.1.1, h5.1.2, h5.2, Kd.N_lt h4 g (by simp [Value.ownBlock])⟩
theorem DeskG.put4 (h : DeskG base w0 d o p here l A c ok W) (hok : ∀ j, ok j → j ≠ g) (hdg : d ≠ g) (hg : base ≤ g) : DeskG base w0 d o p here l A c ok (put4 W g x y z u) := by
  obtain ⟨hbd, hB, hd, hN⟩ := h
  refine ⟨hbd, put4_below hB hg, ?_, Kd.N_mono (put4_N (Kd.N_mono hN (fun j hj => ⟨hj, hok j hj.2⟩))) (fun _ h => h.1)⟩
  exact blk_far (blk_far (blk_far (blk_far hd (p := ⟨g, 0, none⟩) hdg _) (p := ⟨g, 1, none⟩) hdg _) (p := ⟨g, 2, none⟩) hdg _) (p := ⟨g, 3, none⟩) hdg _
end
/-- What a method of the desk gives: a reply, and the desk behind it. -/
def GotM (base : Nat) (w0 : World) (d : Nat) (o : S36) (p : Nat) (here : Bool) (ok : Nat → Prop) (w : World) (r : List S54 × RepT) (e : Ending) (w' : World) : Prop :=
  e = .returned (.agg #[.int .i64 r.2.f0, .int .i64 r.2.f1, .string r.2.f2, .slice none 0 0]) ∧ (∃ A c, DeskG base w0 d o p here r.1 A c ok w') ∧ r.2.f3 = [] ∧ KeepT w w'
theorem gotM_mk {base : Nat} {w0 w w' : World} {d p : Nat} {o : S36} {here : Bool} {l : List S54} {a b : Int} {s : ByteArray} {r : List S54 × RepT} {A : Option Addr} {c : Nat} {ok ok' : Nat → Prop} (hr : r = (l, ⟨a, b, s, []⟩)) (h : DeskG base w0 d o p here l A c ok w') (hk : ∀ j, ok j → ok' j) (hT : KeepT w w') : GotM base w0 d o p here ok' w r (.returned (.agg #[.int .i64 a, .int .i64 b, .string s, .slice none 0 0])) w' := by
  subst hr
  exact ⟨rfl, ⟨A, c, h.mono hk⟩, rfl, hT⟩
/-- A record that is changed, and its rev. -/
def chP (l : List S54) (p : Nat) (y : S54) : List S54 × RepT :=
  if (rd_T54 l p).f2 = 9007199254740992 then (l, ⟨50, 0, ⟨#[]⟩, []⟩) else (l.set p { y with f2 := (rd_T54 l p).f2 + 1 }, ⟨0, (rd_T54 l p).f2 + 1, ⟨#[]⟩, []⟩)

set_option maxHeartbeats 4000000 in
set_option maxRecDepth 100000 in
theorem putF_calls (base : Nat) (w0 : World) (d : Nat) (o : S36) (p : Nat) (l : List S54) (g c bx : Nat) (ok : Nat → Prop) (w : World) (hD : DeskG base w0 d o p true l (some ⟨g, 0, none⟩) c ok w) (hp : p < l.length) (hbx : w.heap[bx]? = some (.cells #[.pointer (some ⟨d, 0, none⟩)] 73 (0, 0))) :
    Calls Try.prog 65 #[.pointer (some ⟨g, p * 6, none⟩), .pointer (some ⟨bx, 0, none⟩)] w fun e w' => e = .returned (.tuple #[]) ∧ DeskG base w0 d o p true (l.set p { rd_T54 l p with f1 := o.f2 }) (some ⟨g, 0, none⟩) c ok w' ∧ KeepX g w w' := by
  have HGD := Lib.hid hD.apart
  obtain ⟨hbd, hB, hd, hN⟩ := hD
  obtain ⟨k0, k1, k2, k3, k4, k5, k6, k7, k8, k9, kl⟩ := ten_cells hd
  obtain ⟨A5, c5, h0, h1, h2, h3, h4, h5, hl5, hF5, hfr⟩ := atN hN p hp
  have b0 : w.cell? ⟨bx, 0, none⟩ = some (.pointer (some ⟨d, 0, none⟩)) := (blk_cell hbx 0).trans rfl
  have HN := Lib.hid hN
  have HBD := Lib.hid (And.intro hbd hB)
  have HD := Lib.hid hd
  have hf1 := hfr 1
  have HFK := Lib.hid (k54_mkF w (fun k => ((base ≤ k ∧ k ≠ d) ∧ ok k) ∧ k ≠ g) { rd_T54 l p with f1 := o.f2 } hl5 hF5)
  have HS := Lib.hid (N_set1 (u := .string o.f2) HN.out p hp 1 (by decide) h0 h1 h2 h3 h4 h5 HFK.out)
  generalize hy : { rd_T54 l p with f1 := o.f2 } = y at HS ⊢
  clear hN hbd hB hd hbx hl5 hF5 hfr HFK hy
  go_enter Try.func65, Try.ntmps65
  go_wp2
  go_end0
  refine ⟨rfl, ⟨HBD.out.1, HBD.out.2.setCell (p := ⟨g, p * 6 + 1, none⟩) HGD.out.1 _, ?_, ?_⟩, keepX_set _ ⟨g, p * 6 + 1, none⟩ _⟩
  · rw [List.length_set]
    exact blk_far HD.out (p := ⟨g, p * 6 + 1, none⟩) (fun e => HGD.out.2.1 e.symm) _
  · rw [List.length_set]
    exact HS.out

set_option maxHeartbeats 4000000 in
set_option maxRecDepth 100000 in
theorem markF_calls (base : Nat) (w0 : World) (d : Nat) (o : S36) (p : Nat) (l : List S54) (g c bx : Nat) (ok : Nat → Prop) (w : World) (hD : DeskG base w0 d o p true l (some ⟨g, 0, none⟩) c ok w) (hp : p < l.length) (hbx : w.heap[bx]? = some (.cells #[.pointer (some ⟨d, 0, none⟩)] 73 (0, 0))) :
    Calls Try.prog 68 #[.pointer (some ⟨g, p * 6, none⟩), .pointer (some ⟨bx, 0, none⟩)] w fun e w' => e = .returned (.tuple #[]) ∧ DeskG base w0 d o p true (l.set p { rd_T54 l p with f3 := o.f5, f4 := o.f6 }) (some ⟨g, 0, none⟩) c ok w' ∧ KeepX g w w' := by
  have HGD := Lib.hid hD.apart
  obtain ⟨hbd, hB, hd, hN⟩ := hD
  obtain ⟨k0, k1, k2, k3, k4, k5, k6, k7, k8, k9, kl⟩ := ten_cells hd
  obtain ⟨A5, c5, h0, h1, h2, h3, h4, h5, hl5, hF5, hfr⟩ := atN hN p hp
  have b0 : w.cell? ⟨bx, 0, none⟩ = some (.pointer (some ⟨d, 0, none⟩)) := (blk_cell hbx 0).trans rfl
  have HN := Lib.hid hN
  have HBD := Lib.hid (And.intro hbd hB)
  have HD := Lib.hid hd
  have HFK3 := Lib.hid (k54_mkF w (fun k => ((base ≤ k ∧ k ≠ d) ∧ ok k) ∧ k ≠ g) { rd_T54 l p with f3 := o.f5 } hl5 hF5)
  have HS3 := Lib.hid (N_set1 (u := .int .i64 o.f5) HN.out p hp 3 (by decide) h0 h1 h2 h3 h4 h5 HFK3.out)
  have HT := Lib.hid (show Kd.N k54 54 ((w.setCell ⟨g, p * 6 + 3, none⟩ (.int .i64 o.f5)).setCell ⟨g, p * 6 + 4, none⟩ (.string o.f6)) base (fun j => (base ≤ j ∧ j ≠ d) ∧ ok j) (.slice (some ⟨g, 0, none⟩) l.length c) (l.set p { rd_T54 l p with f3 := o.f5, f4 := o.f6 }) from by
    obtain ⟨A6, c6, j0, j1, j2, j3, j4, j5, jl5, jF5, _⟩ := atN HS3.out p hp
    rw [rd_set l _ hp] at jl5 jF5 j0 j1 j2 j3 j4 j5
    have h := N_set1 (u := .string o.f6) (x' := { rd_T54 l p with f3 := o.f5, f4 := o.f6 }) HS3.out p hp 4 (by decide) j0 j1 j2 j3 j4 j5 (k54_mkF _ (fun k => ((base ≤ k ∧ k ≠ d) ∧ ok k) ∧ k ≠ g) { rd_T54 l p with f3 := o.f5, f4 := o.f6 } jl5 jF5)
    rw [List.set_set] at h
    exact h)
  have HFK4 := Lib.hid (k54_mkF w (fun k => ((base ≤ k ∧ k ≠ d) ∧ ok k) ∧ k ≠ g) { rd_T54 l p with f4 := o.f6 } hl5 hF5)
  have HS4 := Lib.hid (N_set1 (u := .string o.f6) HN.out p hp 4 (by decide) h0 h1 h2 h3 h4 h5 HFK4.out)
  have HU := Lib.hid (show Kd.N k54 54 ((w.setCell ⟨g, p * 6 + 4, none⟩ (.string o.f6)).setCell ⟨g, p * 6 + 3, none⟩ (.int .i64 o.f5)) base (fun j => (base ≤ j ∧ j ≠ d) ∧ ok j) (.slice (some ⟨g, 0, none⟩) l.length c) (l.set p { rd_T54 l p with f3 := o.f5, f4 := o.f6 }) from by
    obtain ⟨A6, c6, j0, j1, j2, j3, j4, j5, jl5, jF5, _⟩ := atN HS4.out p hp
    rw [rd_set l _ hp] at jl5 jF5 j0 j1 j2 j3 j4 j5
    have h := N_set1 (u := .int .i64 o.f5) (x' := { rd_T54 l p with f3 := o.f5, f4 := o.f6 }) HS4.out p hp 3 (by decide) j0 j1 j2 j3 j4 j5 (k54_mkF _ (fun k => ((base ≤ k ∧ k ≠ d) ∧ ok k) ∧ k ≠ g) { rd_T54 l p with f3 := o.f5, f4 := o.f6 } jl5 jF5)
    rw [List.set_set] at h
    exact h)
  have hf3 := hfr 3
  have hf4 := hfr 4
  generalize hy : { rd_T54 l p with f3 := o.f5, f4 := o.f6 } = y at HT HU ⊢
  clear hN hbd hB hd hbx hl5 hF5 hfr HFK3 HS3 HFK4 HS4 hy
  go_enter Try.func68, Try.ntmps68
  go_wp2_with fail
  go_region
  all_goals
    go_wp2
    go_end0
    refine ⟨rfl, ⟨HBD.out.1, ?c1, ?c2, ?c3⟩, ?c4⟩
    case c3 => rw [List.length_set]; first | exact HT.out | exact HU.out | exact Kd.N_drew HT.out | exact Kd.N_drew HU.out
    case c1 => exact below_drew ((HBD.out.2.setCell (p := ⟨g, p * 6 + 3, none⟩) HGD.out.1 _).setCell (p := ⟨g, p * 6 + 4, none⟩) HGD.out.1 _)
    case c2 => rw [List.length_set]; exact blk_far (blk_far HD.out (p := ⟨g, p * 6 + 3, none⟩) (fun e => HGD.out.2.1 e.symm) _) (p := ⟨g, p * 6 + 4, none⟩) (fun e => HGD.out.2.1 e.symm) _
    case c4 => exact keepX_trans (keepX_set w ⟨g, p * 6 + 3, none⟩ _) (keepX_set (w.setCell ⟨g, p * 6 + 3, none⟩ _) ⟨g, p * 6 + 4, none⟩ _)

set_option maxHeartbeats 4000000 in
set_option maxRecDepth 100000 in
theorem changeput_calls (base : Nat) (w0 : World) (d : Nat) (o : S36) (p : Nat) (l : List S54) (A : Option Addr) (c : Nat) (ok : Nat → Prop) (bx : Nat) (w : World) (hD : DeskG base w0 d o p true l A c ok w) (hp : p < l.length) (hl : l.length ≤ 1000) (hbw : base ≤ w.heap.size) (hbx : w.heap[bx]? = some (.cells #[.pointer (some ⟨d, 0, none⟩)] 73 (0, 0))) (hlo : -9223372036854775808 ≤ (rd_T54 l p).f2) (hhi : (rd_T54 l p).f2 ≤ 9007199254740992) :
    Calls Try.prog 64 #[.pointer (some ⟨d, 0, none⟩), .func (.func 65) #[] #[.pointer (some ⟨bx, 0, none⟩)]] w (GotM base w0 d o p true ok w (chP l p { rd_T54 l p with f1 := o.f2 })) := by
  obtain ⟨r, hr⟩ : ∃ r, r = chP l p { rd_T54 l p with f1 := o.f2 } := ⟨_, rfl⟩
  rw [← hr]
  generalize hW0 : w.alloc (.cells #[.int .i64 0, .int .i64 0, .string ⟨#[]⟩, .slice none 0 0] 34) = W0
  have HB0 := Lib.hid (show Below w.heap.size w W0 by rw [← hW0]; exact below_alloc (Below.refl _ _) _)
  have HK1 := Lib.hid (show W0.heap[w.heap.size]? = some (.cells #[.int .i64 0, .int .i64 0, .string ⟨#[]⟩, .slice none 0 0] 34 (0, 0)) by rw [← hW0]; exact new_at rfl _)
  have HSZ := Lib.hid (show w.heap.size < W0.heap.size by rw [← hW0]; simp)
  have HW0 := Lib.hid hW0; clear hW0
  obtain ⟨g, rfl⟩ := hD.row (by omega)
  have hG := hD.bound
  have hdl := blk_lt hG.2.2.1
  have HDL := Lib.hid hdl
  have HAP := Lib.hid hG.apart
  have HD := Lib.hid (hG.below hbw HB0.out)
  have HCB := Lib.hid (fun (W : World) (hb : Below W0.heap.size W0 W) => putF_calls base w0 d o p l g c bx _ W (HD.out.below (Nat.le_trans hbw (Nat.le_of_lt HSZ.out)) hb) hp (kept_on hb (kept_on HB0.out hbx)))
  obtain ⟨A5, c5, h0, h1, h2, h3, h4, h5, hl5, hF5, hfr⟩ := atN HD.out.2.2.2 p hp
  have hwr : (rd_T54 l p).f2 ≠ 9007199254740992 → IntKind.i64.wrap ((rd_T54 l p).f2 + 1) = (rd_T54 l p).f2 + 1 := fun hne => IntWalk.i64_in _ ⟨by omega, by omega⟩
  obtain ⟨y, hy⟩ : ∃ y, y = { rd_T54 l p with f1 := o.f2 } := ⟨_, rfl⟩
  have HP := Lib.hid (hr.trans (show chP l p { rd_T54 l p with f1 := o.f2 } = if (rd_T54 l p).f2 = 9007199254740992 then (l, ⟨50, 0, ⟨#[]⟩, []⟩) else (l.set p { y with f2 := (rd_T54 l p).f2 + 1 }, ⟨0, (rd_T54 l p).f2 + 1, ⟨#[]⟩, []⟩) from by rw [hy]; rfl))
  have HY2 := Lib.hid (show y.f2 = (rd_T54 l p).f2 by rw [hy])
  rw [← hy] at HCB
  generalize rd_T54 l p = x at *
  have b1 : (0 : Int) ≤ p := by omega
  have b2 : (p : Int) < l.length := by omega
  obtain ⟨k0, k1, k2, k3, k4, k5, k6, k7, k8, k9, kl⟩ := ten_cells HD.out.2.2.1
  obtain ⟨q0, q1, q2, q3, _, ql⟩ := four_cells HK1.out
  clear hG hD hr hy h0 h1 h3 h4 h5 hl5 hF5 hfr hbx hdl
  go_enter Try.func64, Try.ntmps64
  go_upto_region 1 with (fail)
  rw [HW0.out]
  clear HW0
  go_big_quiet (fail)
  generalize hW5 : W0.drewN nq = W5 at *
  have HB5 := Lib.hid (show Below W0.heap.size W0 W5 by rw [← hW5]; exact pw_below_drewN (Below.refl _ _) nq)
  have HD5 := Lib.hid (HD.out.below (Nat.le_trans hbw (Nat.le_of_lt HSZ.out)) HB5.out)
  have HK5 := Lib.hid (kept_on HB5.out HK1.out)
  replace h2 := kept_cell HB5.out h2
  replace HCB := Lib.hid (HCB.out W5 HB5.out)
  replace HB0 := Lib.hid (below_then HB0.out HB0.out.size HB5.out)
  clear hW5 HB5 HD HK1 k0 k1 k2 k3 k4 k5 k6 k7 k8 k9 kl q0 q1 q2 q3 ql
  rename Hid (DeskG _ _ _ _ _ _ _ _ _ _ W5) => HD
  rename Hid (W5.heap[_]? = _) => HK1
  replace HSZ := Lib.hid (show w.heap.size < W5.heap.size from blk_lt HK1.out)
  by_cases hM : x.f2 = 9007199254740992
  · have qM : (x.f2 == 9007199254740992) = true := by simpa using hM
    have HQ := Lib.hid (HP.out.trans (if_pos hM))
    have HF := Lib.hid (fault_calls 50 W5)
    clear HP hM hlo hhi hwr
    go_wp2_with fail
    refine HF.out.mono ?_
    rintro e W1 ⟨rfl, hb1⟩
    have HK2 := Lib.hid (kept_on hb1 HK1.out)
    have HB1 := Lib.hid hb1
    have HD1 := Lib.hid (HD.out.below (Nat.le_trans hbw (Nat.le_of_lt HSZ.out)) hb1)
    clear hb1 h2
    obtain ⟨q0, q1, q2, q3, _, ql⟩ := four_cells HK2.out
    have q0f := blk_frozen HK2.out 0
    have q1f := blk_frozen HK2.out 1
    have q2f := blk_frozen HK2.out 2
    have q3f := blk_frozen HK2.out 3
    go_wp2
    exact ret_P1 Try.results64 rfl rfl (put4_at HK2.out) (gotM_mk HQ.out (HD1.out.put4 (fun j hj => by omega) (by have := HDL.out; omega) hbw) (fun _ h => h.1) (((keepT_below HB0.out).trans (keepT_below HB1.out)).put4 (Nat.le_refl _)))
  have qM : (x.f2 == 9007199254740992) = false := by simpa using hM
  have HQ := Lib.hid (HP.out.trans (if_neg hM))
  replace hwr := hwr hM
  clear HP hM
  go_wp2_with fail
  refine HCB.out.mono ?_
  rintro e W1 ⟨rfl, hd1, hx1⟩
  have HD1 := Lib.hid hd1
  have HX1 := Lib.hid hx1
  have HK2 := Lib.hid (keepX_at hx1 HK1.out (by have := HAP.out.2.2.2; omega))
  clear h2 hd1 hx1 HCB
  obtain ⟨A5, c5, h0, h1, h2, h3, h4, h5, hl5, hF5, hfr⟩ := atN HD1.out.2.2.2 p (by rw [List.length_set]; exact hp)
  rw [rd_set l y hp] at h0 h1 h2 h3 h4 h5 hl5 hF5
  have HFK := Lib.hid (k54_mkF W1 (fun k => ((base ≤ k ∧ k ≠ d) ∧ ok k ∧ k < w.heap.size) ∧ k ≠ g) { y with f2 := x.f2 + 1 } hl5 hF5)
  have HS := Lib.hid (N_set1 (u := .int .i64 (x.f2 + 1)) HD1.out.2.2.2 p (by rw [List.length_set]; exact hp) 2 (by decide) h0 h1 h2 h3 h4 h5 HFK.out)
  rw [HY2.out] at h2
  have hf2 := hfr 2
  have HE := Lib.hid (show DeskG base w0 d o p true (l.set p { y with f2 := x.f2 + 1 }) (some ⟨g, 0, none⟩) c (fun j => ok j ∧ j < w.heap.size) (W1.setCell ⟨g, p * 6 + 2, none⟩ (.int .i64 (x.f2 + 1))) from by
    have h3 := HD1.out.2.2.1
    have h4 := HS.out
    rw [List.set_set] at h4
    rw [List.length_set] at h3 h4
    refine ⟨HD1.out.1, HD1.out.2.1.setCell (p := ⟨g, p * 6 + 2, none⟩) HAP.out.1 _, ?_, ?_⟩
    · rw [List.length_set]
      exact blk_far h3 (p := ⟨g, p * 6 + 2, none⟩) (fun e => HAP.out.2.1 e.symm) _
    · rw [List.length_set]
      exact h4)
  have HC2 := Lib.hid (show (W1.setCell ⟨g, p * 6 + 2, none⟩ (.int .i64 (x.f2 + 1))).cell? ⟨g, p * 6 + 2, none⟩ = some (.int .i64 (x.f2 + 1)) from World.cell?_setCell_same' _ _ _ (by rw [h2]; rfl))
  have HK3 := Lib.hid (blk_far HK2.out (p := ⟨g, p * 6 + 2, none⟩) (by have := HAP.out.2.2.2; intro e; have h : w.heap.size = g := e; omega) (.int .i64 (x.f2 + 1)))
  have HKT := Lib.hid (show KeepT w (W1.setCell ⟨g, p * 6 + 2, none⟩ (.int .i64 (x.f2 + 1))) from by
    obtain ⟨cs, hcs⟩ := Kd.N_typed HD.out.2.2.2 g (by simp [Value.ownBlock])
    exact (keepT_below HB0.out).trans (keepT_keepX (keepX_trans HX1.out (keepX_set W1 ⟨g, p * 6 + 2, none⟩ _)) hcs))
  clear h0 h1 h3 h4 h5 hl5 hF5 hfr HS HFK
  go_upto_region 6 with (fail)
  generalize W1.setCell ⟨g, p * 6 + 2, none⟩ (.int .i64 (x.f2 + 1)) = W2 at *
  have h2' := HC2.out
  obtain ⟨q0, q1, q2, q3, _, ql⟩ := four_cells HK3.out
  have q0f := blk_frozen HK3.out 0
  have q1f := blk_frozen HK3.out 1
  have q2f := blk_frozen HK3.out 2
  have q3f := blk_frozen HK3.out 3
  clear h2 hf2
  go_wp2
  exact ret_P1 Try.results64 rfl rfl (put4_at HK3.out) (gotM_mk HQ.out (HE.out.put4 (fun j hj => by omega) (by have := HDL.out; omega) hbw) (fun _ h => h.1) (HKT.out.put4 (Nat.le_refl _)))

set_option maxHeartbeats 4000000 in
set_option maxRecDepth 100000 in
theorem changemark_calls (base : Nat) (w0 : World) (d : Nat) (o : S36) (p : Nat) (l : List S54) (A : Option Addr) (c : Nat) (ok : Nat → Prop) (bx : Nat) (w : World) (hD : DeskG base w0 d o p true l A c ok w) (hp : p < l.length) (hl : l.length ≤ 1000) (hbw : base ≤ w.heap.size) (hbx : w.heap[bx]? = some (.cells #[.pointer (some ⟨d, 0, none⟩)] 73 (0, 0))) (hlo : -9223372036854775808 ≤ (rd_T54 l p).f2) (hhi : (rd_T54 l p).f2 ≤ 9007199254740992) :
    Calls Try.prog 64 #[.pointer (some ⟨d, 0, none⟩), .func (.func 68) #[] #[.pointer (some ⟨bx, 0, none⟩)]] w (GotM base w0 d o p true ok w (chP l p { rd_T54 l p with f3 := o.f5, f4 := o.f6 })) := by
  obtain ⟨r, hr⟩ : ∃ r, r = chP l p { rd_T54 l p with f3 := o.f5, f4 := o.f6 } := ⟨_, rfl⟩
  rw [← hr]
  generalize hW0 : w.alloc (.cells #[.int .i64 0, .int .i64 0, .string ⟨#[]⟩, .slice none 0 0] 34) = W0
  have HB0 := Lib.hid (show Below w.heap.size w W0 by rw [← hW0]; exact below_alloc (Below.refl _ _) _)
  have HK1 := Lib.hid (show W0.heap[w.heap.size]? = some (.cells #[.int .i64 0, .int .i64 0, .string ⟨#[]⟩, .slice none 0 0] 34 (0, 0)) by rw [← hW0]; exact new_at rfl _)
  have HSZ := Lib.hid (show w.heap.size < W0.heap.size by rw [← hW0]; simp)
  have HW0 := Lib.hid hW0; clear hW0
  obtain ⟨g, rfl⟩ := hD.row (by omega)
  have hG := hD.bound
  have hdl := blk_lt hG.2.2.1
  have HDL := Lib.hid hdl
  have HAP := Lib.hid hG.apart
  have HD := Lib.hid (hG.below hbw HB0.out)
  have HCB := Lib.hid (fun (W : World) (hb : Below W0.heap.size W0 W) => markF_calls base w0 d o p l g c bx _ W (HD.out.below (Nat.le_trans hbw (Nat.le_of_lt HSZ.out)) hb) hp (kept_on hb (kept_on HB0.out hbx)))
  obtain ⟨A5, c5, h0, h1, h2, h3, h4, h5, hl5, hF5, hfr⟩ := atN HD.out.2.2.2 p hp
  have hwr : (rd_T54 l p).f2 ≠ 9007199254740992 → IntKind.i64.wrap ((rd_T54 l p).f2 + 1) = (rd_T54 l p).f2 + 1 := fun hne => IntWalk.i64_in _ ⟨by omega, by omega⟩
  obtain ⟨y, hy⟩ : ∃ y, y = { rd_T54 l p with f3 := o.f5, f4 := o.f6 } := ⟨_, rfl⟩
  have HP := Lib.hid (hr.trans (show chP l p { rd_T54 l p with f3 := o.f5, f4 := o.f6 } = if (rd_T54 l p).f2 = 9007199254740992 then (l, ⟨50, 0, ⟨#[]⟩, []⟩) else (l.set p { y with f2 := (rd_T54 l p).f2 + 1 }, ⟨0, (rd_T54 l p).f2 + 1, ⟨#[]⟩, []⟩) from by rw [hy]; rfl))
  have HY2 := Lib.hid (show y.f2 = (rd_T54 l p).f2 by rw [hy])
  rw [← hy] at HCB
  generalize rd_T54 l p = x at *
  have b1 : (0 : Int) ≤ p := by omega
  have b2 : (p : Int) < l.length := by omega
  obtain ⟨k0, k1, k2, k3, k4, k5, k6, k7, k8, k9, kl⟩ := ten_cells HD.out.2.2.1
  obtain ⟨q0, q1, q2, q3, _, ql⟩ := four_cells HK1.out
  clear hG hD hr hy h0 h1 h3 h4 h5 hl5 hF5 hfr hbx hdl
  go_enter Try.func64, Try.ntmps64
  go_upto_region 1 with (fail)
  rw [HW0.out]
  clear HW0
  go_big_quiet (fail)
  generalize hW5 : W0.drewN nq = W5 at *
  have HB5 := Lib.hid (show Below W0.heap.size W0 W5 by rw [← hW5]; exact pw_below_drewN (Below.refl _ _) nq)
  have HD5 := Lib.hid (HD.out.below (Nat.le_trans hbw (Nat.le_of_lt HSZ.out)) HB5.out)
  have HK5 := Lib.hid (kept_on HB5.out HK1.out)
  replace h2 := kept_cell HB5.out h2
  replace HCB := Lib.hid (HCB.out W5 HB5.out)
  replace HB0 := Lib.hid (below_then HB0.out HB0.out.size HB5.out)
  clear hW5 HB5 HD HK1 k0 k1 k2 k3 k4 k5 k6 k7 k8 k9 kl q0 q1 q2 q3 ql
  rename Hid (DeskG _ _ _ _ _ _ _ _ _ _ W5) => HD
  rename Hid (W5.heap[_]? = _) => HK1
  replace HSZ := Lib.hid (show w.heap.size < W5.heap.size from blk_lt HK1.out)
  by_cases hM : x.f2 = 9007199254740992
  · have qM : (x.f2 == 9007199254740992) = true := by simpa using hM
    have HQ := Lib.hid (HP.out.trans (if_pos hM))
    have HF := Lib.hid (fault_calls 50 W5)
    clear HP hM hlo hhi hwr
    go_wp2_with fail
    refine HF.out.mono ?_
    rintro e W1 ⟨rfl, hb1⟩
    have HK2 := Lib.hid (kept_on hb1 HK1.out)
    have HB1 := Lib.hid hb1
    have HD1 := Lib.hid (HD.out.below (Nat.le_trans hbw (Nat.le_of_lt HSZ.out)) hb1)
    clear hb1 h2
    obtain ⟨q0, q1, q2, q3, _, ql⟩ := four_cells HK2.out
    have q0f := blk_frozen HK2.out 0
    have q1f := blk_frozen HK2.out 1
    have q2f := blk_frozen HK2.out 2
    have q3f := blk_frozen HK2.out 3
    go_wp2
    exact ret_P1 Try.results64 rfl rfl (put4_at HK2.out) (gotM_mk HQ.out (HD1.out.put4 (fun j hj => by omega) (by have := HDL.out; omega) hbw) (fun _ h => h.1) (((keepT_below HB0.out).trans (keepT_below HB1.out)).put4 (Nat.le_refl _)))
  have qM : (x.f2 == 9007199254740992) = false := by simpa using hM
  have HQ := Lib.hid (HP.out.trans (if_neg hM))
  replace hwr := hwr hM
  clear HP hM
  go_wp2_with fail
  refine HCB.out.mono ?_
  rintro e W1 ⟨rfl, hd1, hx1⟩
  have HD1 := Lib.hid hd1
  have HX1 := Lib.hid hx1
  have HK2 := Lib.hid (keepX_at hx1 HK1.out (by have := HAP.out.2.2.2; omega))
  clear h2 hd1 hx1 HCB
  obtain ⟨A5, c5, h0, h1, h2, h3, h4, h5, hl5, hF5, hfr⟩ := atN HD1.out.2.2.2 p (by rw [List.length_set]; exact hp)
  rw [rd_set l y hp] at h0 h1 h2 h3 h4 h5 hl5 hF5
  have HFK := Lib.hid (k54_mkF W1 (fun k => ((base ≤ k ∧ k ≠ d) ∧ ok k ∧ k < w.heap.size) ∧ k ≠ g) { y with f2 := x.f2 + 1 } hl5 hF5)
  have HS := Lib.hid (N_set1 (u := .int .i64 (x.f2 + 1)) HD1.out.2.2.2 p (by rw [List.length_set]; exact hp) 2 (by decide) h0 h1 h2 h3 h4 h5 HFK.out)
  rw [HY2.out] at h2
  have hf2 := hfr 2
  have HE := Lib.hid (show DeskG base w0 d o p true (l.set p { y with f2 := x.f2 + 1 }) (some ⟨g, 0, none⟩) c (fun j => ok j ∧ j < w.heap.size) (W1.setCell ⟨g, p * 6 + 2, none⟩ (.int .i64 (x.f2 + 1))) from by
    have h3 := HD1.out.2.2.1
    have h4 := HS.out
    rw [List.set_set] at h4
    rw [List.length_set] at h3 h4
    refine ⟨HD1.out.1, HD1.out.2.1.setCell (p := ⟨g, p * 6 + 2, none⟩) HAP.out.1 _, ?_, ?_⟩
    · rw [List.length_set]
      exact blk_far h3 (p := ⟨g, p * 6 + 2, none⟩) (fun e => HAP.out.2.1 e.symm) _
    · rw [List.length_set]
      exact h4)
  have HC2 := Lib.hid (show (W1.setCell ⟨g, p * 6 + 2, none⟩ (.int .i64 (x.f2 + 1))).cell? ⟨g, p * 6 + 2, none⟩ = some (.int .i64 (x.f2 + 1)) from World.cell?_setCell_same' _ _ _ (by rw [h2]; rfl))
  have HK3 := Lib.hid (blk_far HK2.out (p := ⟨g, p * 6 + 2, none⟩) (by have := HAP.out.2.2.2; intro e; have h : w.heap.size = g := e; omega) (.int .i64 (x.f2 + 1)))
  have HKT := Lib.hid (show KeepT w (W1.setCell ⟨g, p * 6 + 2, none⟩ (.int .i64 (x.f2 + 1))) from by
    obtain ⟨cs, hcs⟩ := Kd.N_typed HD.out.2.2.2 g (by simp [Value.ownBlock])
    exact (keepT_below HB0.out).trans (keepT_keepX (keepX_trans HX1.out (keepX_set W1 ⟨g, p * 6 + 2, none⟩ _)) hcs))
  clear h0 h1 h3 h4 h5 hl5 hF5 hfr HS HFK
  go_upto_region 6 with (fail)
  generalize W1.setCell ⟨g, p * 6 + 2, none⟩ (.int .i64 (x.f2 + 1)) = W2 at *
  have h2' := HC2.out
  obtain ⟨q0, q1, q2, q3, _, ql⟩ := four_cells HK3.out
  have q0f := blk_frozen HK3.out 0
  have q1f := blk_frozen HK3.out 1
  have q2f := blk_frozen HK3.out 2
  have q3f := blk_frozen HK3.out 3
  clear h2 hf2
  go_wp2
  exact ret_P1 Try.results64 rfl rfl (put4_at HK3.out) (gotM_mk HQ.out (HE.out.put4 (fun j hj => by omega) (by have := HDL.out; omega) hbw) (fun _ h => h.1) (HKT.out.put4 (Nat.le_refl _)))

end Go.Proofs.Ytadhfedbgeenlaa.H

/- The desk's put and mark, where the key is there; cas. -/
namespace Go.Proofs.Ytadhfedbgeenlaa.H
open Go.RowKit Go.Proofs.YtadhfedbgeenlaaW.PrintWords Go.Proofs.YtadhfedbgeenlaaW.PrintLast Go.Proofs.YtadhfedbgeenlaaW.PrintMore
set_option linter.unusedVariables false
set_option linter.unusedSimpArgs false
theorem wide_ok {base : Nat} {w0 W : World} {d p : Nat} {o : S36} {here : Bool} {l : List S54} {A : Option Addr} {c : Nat} {ok : Nat → Prop} (h : DeskG base w0 d o p here l A c ok W) (n : Nat) (hn : W.heap.size ≤ n) : DeskG base w0 d o p here l A c (fun j => ok j ∧ j ≠ n) W := h.bound.mono (fun j hj => ⟨hj.1, by omega⟩)

set_option maxHeartbeats 4000000 in
set_option maxRecDepth 100000 in
theorem put1_calls (base : Nat) (w0 : World) (d : Nat) (o : S36) (p : Nat) (l : List S54) (A : Option Addr) (c : Nat) (ok : Nat → Prop) (w : World) (hD : DeskG base w0 d o p true l A c ok w) (hp : p < l.length) (hl : l.length ≤ 1000) (hbw : base ≤ w.heap.size) (hlo : -9223372036854775808 ≤ (rd_T54 l p).f2) (hhi : (rd_T54 l p).f2 ≤ 9007199254740992) :
    Calls Try.prog 45 #[.pointer (some ⟨d, 0, none⟩)] w (GotM base w0 d o p true ok w (chP l p { rd_T54 l p with f1 := o.f2 })) := by
  generalize hW0 : (w.alloc (.cells #[.pointer (some ⟨d, 0, none⟩)] 73)).alloc (.cells #[.int .i64 0, .int .i64 0, .string ⟨#[]⟩, .slice none 0 0] 34) = W0
  have HB0 := Lib.hid (show Below w.heap.size w W0 by rw [← hW0]; exact below_alloc (below_alloc (Below.refl _ _) _) _)
  have HK0 := Lib.hid (show W0.heap[w.heap.size]? = some (.cells #[.pointer (some ⟨d, 0, none⟩)] 73 (0, 0)) by rw [← hW0]; exact alloc_on (new_at rfl _) _)
  have HK1 := Lib.hid (show W0.heap[w.heap.size + 1]? = some (.cells #[.int .i64 0, .int .i64 0, .string ⟨#[]⟩, .slice none 0 0] 34 (0, 0)) by rw [← hW0]; exact new_at (by simp) _)
  have HSZ := Lib.hid (show W0.heap.size = w.heap.size + 2 by rw [← hW0]; simp)
  have HW0 := Lib.hid hW0; clear hW0
  have HDL := Lib.hid (blk_lt hD.2.2.1)
  have HD := Lib.hid ((wide_ok hD (w.heap.size + 1) (by omega)).below hbw HB0.out)
  have HCH := Lib.hid (changeput_calls base w0 d o p l A c _ w.heap.size W0 HD.out hp hl (by have := HSZ.out; omega) HK0.out hlo hhi)
  generalize chP l p { rd_T54 l p with f1 := o.f2 } = r at *
  obtain ⟨k0, k1, k2, k3, k4, k5, k6, k7, k8, k9, kl⟩ := ten_cells HD.out.2.2.1
  obtain ⟨q0, q1, q2, q3, _, ql⟩ := four_cells HK1.out
  have p0 : W0.cell? ⟨w.heap.size, 0, none⟩ = some (.pointer (some ⟨d, 0, none⟩)) := (blk_cell HK0.out 0).trans rfl
  clear hD hlo hhi
  go_enter Try.func45, Try.ntmps45
  go_upto_region 1 with (fail)
  rw [HW0.out]
  clear HW0
  go_wp2_with fail
  refine HCH.out.mono ?_
  rintro e W1 ⟨rfl, ⟨A1, c1, hd1⟩, h3, hT⟩
  have HD1 := Lib.hid hd1
  have HT := Lib.hid hT
  have HK2 := Lib.hid (hT.2 _ _ _ HK1.out (by decide) (by decide))
  have H3 := Lib.hid h3
  clear q0 q1 q2 q3 ql k0 k1 k2 k3 k4 k5 k6 k7 k8 k9 kl p0 hd1 hT h3 HCH
  obtain ⟨q0, q1, q2, q3, _, ql⟩ := four_cells HK2.out
  have q0f := blk_frozen HK2.out 0
  have q1f := blk_frozen HK2.out 1
  have q2f := blk_frozen HK2.out 2
  have q3f := blk_frozen HK2.out 3
  go_wp2
  exact ret_P1 Try.results45 rfl rfl (put4_at HK2.out) ⟨rfl, ⟨A1, c1, (HD1.out.put4 (fun j hj => hj.2) (by have := HDL.out; omega) (by omega)).mono (fun _ h => h.1)⟩, H3.out, ((keepT_below HB0.out).trans HT.out).put4 (by omega)⟩

set_option maxHeartbeats 4000000 in
set_option maxRecDepth 100000 in
theorem mark1_calls (base : Nat) (w0 : World) (d : Nat) (o : S36) (p : Nat) (l : List S54) (A : Option Addr) (c : Nat) (ok : Nat → Prop) (w : World) (hD : DeskG base w0 d o p true l A c ok w) (hp : p < l.length) (hl : l.length ≤ 1000) (hbw : base ≤ w.heap.size) (hlo : -9223372036854775808 ≤ (rd_T54 l p).f2) (hhi : (rd_T54 l p).f2 ≤ 9007199254740992) :
    Calls Try.prog 48 #[.pointer (some ⟨d, 0, none⟩)] w (GotM base w0 d o p true ok w (chP l p { rd_T54 l p with f3 := o.f5, f4 := o.f6 })) := by
  generalize hW0 : (w.alloc (.cells #[.pointer (some ⟨d, 0, none⟩)] 73)).alloc (.cells #[.int .i64 0, .int .i64 0, .string ⟨#[]⟩, .slice none 0 0] 34) = W0
  have HB0 := Lib.hid (show Below w.heap.size w W0 by rw [← hW0]; exact below_alloc (below_alloc (Below.refl _ _) _) _)
  have HK0 := Lib.hid (show W0.heap[w.heap.size]? = some (.cells #[.pointer (some ⟨d, 0, none⟩)] 73 (0, 0)) by rw [← hW0]; exact alloc_on (new_at rfl _) _)
  have HK1 := Lib.hid (show W0.heap[w.heap.size + 1]? = some (.cells #[.int .i64 0, .int .i64 0, .string ⟨#[]⟩, .slice none 0 0] 34 (0, 0)) by rw [← hW0]; exact new_at (by simp) _)
  have HSZ := Lib.hid (show W0.heap.size = w.heap.size + 2 by rw [← hW0]; simp)
  have HW0 := Lib.hid hW0; clear hW0
  have HDL := Lib.hid (blk_lt hD.2.2.1)
  have HD := Lib.hid ((wide_ok hD (w.heap.size + 1) (by omega)).below hbw HB0.out)
  have HCH := Lib.hid (changemark_calls base w0 d o p l A c _ w.heap.size W0 HD.out hp hl (by have := HSZ.out; omega) HK0.out hlo hhi)
  generalize chP l p { rd_T54 l p with f3 := o.f5, f4 := o.f6 } = r at *
  obtain ⟨k0, k1, k2, k3, k4, k5, k6, k7, k8, k9, kl⟩ := ten_cells HD.out.2.2.1
  obtain ⟨q0, q1, q2, q3, _, ql⟩ := four_cells HK1.out
  have p0 : W0.cell? ⟨w.heap.size, 0, none⟩ = some (.pointer (some ⟨d, 0, none⟩)) := (blk_cell HK0.out 0).trans rfl
  clear hD hlo hhi
  go_enter Try.func48, Try.ntmps48
  go_upto_region 1 with (fail)
  rw [HW0.out]
  clear HW0
  go_wp2_with fail
  refine HCH.out.mono ?_
  rintro e W1 ⟨rfl, ⟨A1, c1, hd1⟩, h3, hT⟩
  have HD1 := Lib.hid hd1
  have HT := Lib.hid hT
  have HK2 := Lib.hid (hT.2 _ _ _ HK1.out (by decide) (by decide))
  have H3 := Lib.hid h3
  clear q0 q1 q2 q3 ql k0 k1 k2 k3 k4 k5 k6 k7 k8 k9 kl p0 hd1 hT h3 HCH
  obtain ⟨q0, q1, q2, q3, _, ql⟩ := four_cells HK2.out
  have q0f := blk_frozen HK2.out 0
  have q1f := blk_frozen HK2.out 1
  have q2f := blk_frozen HK2.out 2
  have q3f := blk_frozen HK2.out 3
  go_wp2
  exact ret_P1 Try.results48 rfl rfl (put4_at HK2.out) ⟨rfl, ⟨A1, c1, (HD1.out.put4 (fun j hj => hj.2) (by have := HDL.out; omega) (by omega)).mono (fun _ h => h.1)⟩, H3.out, ((keepT_below HB0.out).trans HT.out).put4 (by omega)⟩
/-- The desk's cas. -/
def casP (l : List S54) (o : S36) (p : Nat) (here : Bool) : List S54 × RepT := if revD here l p = o.f3 then putP l o p here else (l, ⟨71, revD here l p, ⟨#[]⟩, []⟩)

set_option maxHeartbeats 4000000 in
set_option maxRecDepth 100000 in
theorem cas_calls (base : Nat) (w0 : World) (d : Nat) (o : S36) (p : Nat) (here : Bool) (l : List S54) (A : Option Addr) (c : Nat) (ok : Nat → Prop) (w : World) (hD : DeskG base w0 d o p here l A c ok w) (hof : ∀ j, w.heap.size ≤ j → ok j) (hp : here = true → p < l.length) (hl : l.length ≤ 1000) (hbw : base ≤ w.heap.size)
    (hput : ∀ (ok' : Nat → Prop) (W : World), DeskG base w0 d o p here l A c ok' W → (∀ j, W.heap.size ≤ j → ok' j) → base ≤ W.heap.size → Calls Try.prog 45 #[.pointer (some ⟨d, 0, none⟩)] W (GotM base w0 d o p here ok' W (putP l o p here))) :
    Calls Try.prog 47 #[.pointer (some ⟨d, 0, none⟩)] w (GotM base w0 d o p here ok w (casP l o p here)) := by
  obtain ⟨r, hr⟩ : ∃ r, r = casP l o p here := ⟨_, rfl⟩
  rw [← hr]
  generalize hW0 : w.alloc (.cells #[.int .i64 0, .int .i64 0, .string ⟨#[]⟩, .slice none 0 0] 34) = W0
  have HB0 := Lib.hid (show Below w.heap.size w W0 by rw [← hW0]; exact below_alloc (Below.refl _ _) _)
  have HK1 := Lib.hid (show W0.heap[w.heap.size]? = some (.cells #[.int .i64 0, .int .i64 0, .string ⟨#[]⟩, .slice none 0 0] 34 (0, 0)) by rw [← hW0]; exact new_at rfl _)
  have HSZ := Lib.hid (show W0.heap.size = w.heap.size + 1 by rw [← hW0]; simp)
  have HW0 := Lib.hid hW0; clear hW0
  have HDL := Lib.hid (blk_lt hD.2.2.1)
  have HD := Lib.hid ((wide_ok hD w.heap.size (Nat.le_refl _)).below hbw HB0.out)
  have HRV := Lib.hid (rev_calls base w0 d o p here l W0 HD.out.desk hp hl)
  have HP := Lib.hid (hr.trans (show casP l o p here = if revD here l p = o.f3 then putP l o p here else (l, ⟨71, revD here l p, ⟨#[]⟩, []⟩) from rfl))
  have HPUT := Lib.hid hput
  have HOF := Lib.hid hof
  generalize revD here l p = rev at *
  clear hD hr hput hof
  go_enter Try.func47, Try.ntmps47
  go_upto_region 1 with (fail)
  rw [HW0.out]
  clear HW0
  go_wp2_with fail
  refine HRV.out.mono ?_
  rintro e W1 ⟨rfl, hb1⟩
  have HB1 := Lib.hid hb1
  have HD1 := Lib.hid (HD.out.below (by have := HSZ.out; omega) hb1)
  have HK2 := Lib.hid (kept_on hb1 HK1.out)
  clear hb1 HRV
  obtain ⟨k0, k1, k2, k3, k4, k5, k6, k7, k8, k9, kl⟩ := ten_cells HD1.out.2.2.1
  by_cases hM : rev = o.f3
  · have qM : (rev != o.f3) = false := by simpa using hM
    have HQ := Lib.hid (HP.out.trans (if_pos hM))
    have HC := Lib.hid (HPUT.out _ W1 HD1.out (fun j hj => ⟨HOF.out j (by have := HSZ.out; have := HB1.out.size; omega), by have := HSZ.out; have := HB1.out.size; omega⟩) (by have := HSZ.out; have := HB1.out.size; omega))
    rw [← HQ.out] at HC
    clear HP hM HPUT HQ
    go_wp2_with fail
    refine HC.out.mono ?_
    rintro e W2 ⟨rfl, ⟨A1, c1, hd1⟩, h3, hT⟩
    have HD2 := Lib.hid hd1
    have HT := Lib.hid hT
    have HK3 := Lib.hid (hT.2 _ _ _ HK2.out (by decide) (by decide))
    have H3 := Lib.hid h3
    clear k0 k1 k2 k3 k4 k5 k6 k7 k8 k9 kl hd1 hT h3 HC
    obtain ⟨q0, q1, q2, q3, _, ql⟩ := four_cells HK3.out
    have q0f := blk_frozen HK3.out 0
    have q1f := blk_frozen HK3.out 1
    have q2f := blk_frozen HK3.out 2
    have q3f := blk_frozen HK3.out 3
    go_wp2
    exact ret_P1 Try.results47 rfl rfl (put4_at HK3.out) ⟨rfl, ⟨A1, c1, (HD2.out.put4 (fun j hj => hj.2) (by have := HDL.out; omega) (by omega)).mono (fun _ h => h.1)⟩, H3.out, (((keepT_below HB0.out).trans (keepT_below HB1.out)).trans HT.out).put4 (by omega)⟩
  have qM : (rev != o.f3) = true := by simpa using hM
  have HQ := Lib.hid (HP.out.trans (if_neg hM))
  clear HP hM HPUT
  obtain ⟨q0, q1, q2, q3, _, ql⟩ := four_cells HK2.out
  have q0f := blk_frozen HK2.out 0
  have q1f := blk_frozen HK2.out 1
  have q2f := blk_frozen HK2.out 2
  have q3f := blk_frozen HK2.out 3
  go_wp2
  exact ret_P1 Try.results47 rfl rfl (put4_at HK2.out) (gotM_mk HQ.out (HD1.out.put4 (fun j hj => hj.2) (by have := HDL.out; omega) (by omega)) (fun _ h => h.1) (((keepT_below HB0.out).trans (keepT_below HB1.out)).put4 (by omega)))

end Go.Proofs.Ytadhfedbgeenlaa.H

/- A row of one's own, cell by cell: laid open, and made; one record put between its others. -/
namespace Go.Proofs.Ytadhfedbgeenlaa.H
open Go.RowKit Go.Proofs.YtadhfedbgeenlaaW.PrintWords Go.Proofs.YtadhfedbgeenlaaW.PrintLast Go.Proofs.YtadhfedbgeenlaaW.PrintMore
set_option linter.unusedVariables false
set_option linter.unusedSimpArgs false

/-- The cells of element j. -/
def seg (s : Nat) (l : List Value) (j : Nat) : List Value := (l.drop (j * s)).take s
section
variable {s j : Nat} {l a b c : List Value}
theorem seg_take {n : Nat} (h : j < n) : seg s (l.take (n * s)) j = seg s l j := by
  unfold seg
  have h1 : (j + 1) * s ≤ n * s := Nat.mul_le_mul_right _ h
  rw [Nat.succ_mul] at h1
  apply List.ext_getElem?
  intro q
  rw [List.getElem?_take, List.getElem?_take]
  split
  · rw [List.getElem?_drop, List.getElem?_drop, List.getElem?_take, if_pos (by omega)]
  · rfl
theorem seg_left (h : (j + 1) * s ≤ a.length) : seg s (a ++ b) j = seg s a j := by
  unfold seg
  rw [Nat.succ_mul] at h
  apply List.ext_getElem?
  intro q
  rw [List.getElem?_take, List.getElem?_take]
  split
  · rw [List.getElem?_drop, List.getElem?_drop, List.getElem?_append_left (by omega)]
  · rfl
theorem seg_right {i : Nat} (h : a.length = i * s) : seg s (a ++ b) (i + j) = seg s b j := by
  unfold seg
  rw [Nat.add_mul, ← h, List.drop_append, List.drop_eq_nil_of_le (by omega), List.nil_append]
  congr 2
  omega
theorem seg_one (h : a.length = s) : seg s (a ++ b) 0 = a := by
  unfold seg
  rw [Nat.zero_mul, List.drop_zero, List.take_left' h]
theorem seg_drop {i : Nat} : seg s (l.drop (i * s)) j = seg s l (i + j) := by
  unfold seg
  rw [List.drop_drop, Nat.add_mul]
end

theorem rec_sz : (k54).sz = 6 := rfl
/-- A row laid open. -/
theorem N_open {W : World} {base g n cap : Nat} {ok : Nat → Prop} {l : List S54} (h : Kd.N k54 54 W base ok (.slice (some ⟨g, 0, none⟩) n cap) l) :
    ∃ cur : List Value, W.heap[g]? = some (.cells cur.toArray 54 (0, 0)) ∧ cur.length = cap * 6 ∧ n = l.length ∧ n ≤ cap ∧ cap ≤ maxLen ∧ base ≤ g ∧ ok g ∧ (∀ u ∈ cur.take (n * 6), u.oneCell' = true) ∧ ∀ j x, l[j]? = some x → Kd.FK k54 W (fun k => ok k ∧ k ≠ g) x (seg 6 cur j) := by
  have hn := (Kd.N_reads' h).1
  obtain ⟨h0, rows, hl, hR, hf⟩ := h
  obtain ⟨r0, inner, hown, hrep⟩ := hR
  obtain ⟨h1, h2 | ⟨g', cap', cur, hv, hb, hh, h3, h4, h5, h6⟩⟩ := hown
  · exact absurd h2.1 (by simp)
  · injection hv with hv1 hv2 hv3
    injection hv1 with hv1
    injection hv1 with hv1
    subst hv1
    subst hv3
    have hlr : rows.length = n := hl.trans hn.symm
    have h6' : cur.toList.take (n * 6) = inner := by rw [← hlr]; exact h6
    refine ⟨cur.toList, by rw [Array.toArray_toList]; exact hh, by rw [Array.length_toList]; exact h5, hn, by omega, h4, hb, h0 g (by simp [Value.ownBlock]), fun u hu => ?_, fun j x hx => ?_⟩
    · rw [h6'] at hu
      obtain ⟨q, hq, rfl⟩ := List.mem_iff_getElem.1 hu
      have hin : inner.length = n * 6 := by rw [← hlr]; exact h1
      have hqn : q / 6 < n := by omega
      have hr := hrep.2 (q / 6) _ (List.getElem?_eq_getElem (by omega : q / 6 < rows.length))
      have hu2 := hr.2.2 inner[q] (by
        rw [hr.1.symm] at *
        refine List.mem_iff_getElem?.2 ⟨q % 6, ?_⟩
        show ((inner.drop (q / 6 * 6)).take 6)[q % 6]? = _
        rw [List.getElem?_take, if_pos (Nat.mod_lt _ (by decide)), List.getElem?_drop, show q / 6 * 6 + q % 6 = q by omega]
        exact List.getElem?_eq_getElem hq)
      exact hu2
    · have hj := (List.getElem?_eq_some_iff.1 hx).1
      have hr := (hrep.2 j _ (List.getElem?_eq_getElem (by omega : j < rows.length))).1
      have h7 := hf j x _ hx (List.getElem?_eq_getElem (by omega : j < rows.length))
      rw [← hr] at h7
      have h8 : seg 6 cur.toList j = (inner.drop (j * 6)).take 6 := by
        rw [← h6']
        exact (seg_take (by omega)).symm
      rw [h8]
      exact Kd.FK_mono h7 (fun k hk => ⟨hk.1, fun e => hk.2 (by rw [e]; simp [Value.ownBlock])⟩)
/-- A row made. -/
theorem N_close {W : World} {base g n cap : Nat} {ok : Nat → Prop} {l : List S54} {cur : List Value} (hh : W.heap[g]? = some (.cells cur.toArray 54 (0, 0))) (hs : cur.length = cap * 6) (hn : n = l.length) (hc : n ≤ cap) (hm : cap ≤ maxLen) (hb : base ≤ g) (hok : ok g)
    (hf : ∀ j x, l[j]? = some x → Kd.FK k54 W (fun k => ok k ∧ k ≠ g) x (seg 6 cur j)) : Kd.N k54 54 W base ok (.slice (some ⟨g, 0, none⟩) n cap) l := by
  subst hn
  have hlen : (cur.take (l.length * 6)).length = l.length * 6 := by rw [List.length_take]; omega
  have hseg : ∀ j, j < l.length → ((cur.take (l.length * 6)).drop (j * 6)).take 6 = seg 6 cur j := fun j hj => seg_take hj
  refine ⟨fun k hk => by simp [Value.ownBlock] at hk; rw [← hk]; exact hok, Kd.chunks 6 l.length (cur.take (l.length * 6)), Kd.chunks_length _ _ _, ⟨fun k hk => hk.symm, cur.take (l.length * 6), ⟨by rw [Kd.chunks_length]; exact hlen, .inr ⟨g, cap, cur.toArray, by rw [Kd.chunks_length], hb, hh, by rw [Kd.chunks_length]; exact hc, hm, (show cur.toArray.size = cap * 6 by simpa using hs), by rw [Kd.chunks_length]; rfl⟩⟩, ?_⟩, fun j x c hx hcc => ?_⟩
  · exact Kd.reps_raw (Rr := fun x c => Kd.FK k54 W (fun k => ok k ∧ k ≠ g) x c) ⟨hlen, fun j x hx => by
      have hj := (List.getElem?_eq_some_iff.1 hx).1
      show Kd.FK k54 W _ x (((cur.take (l.length * 6)).drop (j * 6)).take 6)
      rw [hseg j hj]
      exact hf j x hx⟩ (fun x c hp => ⟨(k54).K_len (Kd.FK_now hp), (k54).K_one (Kd.FK_now hp)⟩)
  · have hj := (List.getElem?_eq_some_iff.1 hx).1
    rw [Kd.chunks_get hcc, hseg j hj]
    exact Kd.FK_mono (hf j x hx) (fun k hk => ⟨hk.1, fun e => hk.2 (by simpa [Value.ownBlock] using e)⟩)
/-- One record put between the others: the cells say so. -/
theorem N_inserted {W W' : World} {base g gg n cap' i : Nat} {ok okx : Nat → Prop} {l : List S54} {x : S54} {cur cur' c : List Value} (hn : n = l.length) (hi : i ≤ n) (hl : n * 6 ≤ cur.length)
    (hf : ∀ j x, l[j]? = some x → Kd.FK k54 W (fun k => ok k ∧ k ≠ g) x (seg 6 cur j)) (hx : Kd.FK k54 W okx x c)
    (hh : W'.heap[gg]? = some (.cells cur'.toArray 54 (0, 0))) (hs : cur'.length = cap' * 6) (hc : n + 1 ≤ cap') (hm : cap' ≤ maxLen) (hb : base ≤ gg) (hok : ok gg)
    (hcells : cur'.take ((n + 1) * 6) = cur.take (i * 6) ++ (c ++ (cur.drop (i * 6)).take ((n - i) * 6)))
    (hkeep : ∀ k, ok k → k ≠ g → k < W.heap.size → W'.heap[k]? = W.heap[k]? ∧ k ≠ gg) (hkx : ∀ k, okx k → k < W.heap.size → W'.heap[k]? = W.heap[k]? ∧ k ≠ gg ∧ ok k) :
    Kd.N k54 54 W' base ok (.slice (some ⟨gg, 0, none⟩) (n + 1) cap') (l.take i ++ x :: l.drop i) := by
  subst hn
  have hli : (l.take i).length = i := by rw [List.length_take]; omega
  have h6 : c.length = 6 := (k54).K_len (Kd.FK_now hx)
  have hci : (cur.take (i * 6)).length = i * 6 := by rw [List.length_take]; omega
  have step : ∀ (y : S54) (cs : List Value), Kd.FK k54 W (fun k => ok k ∧ k ≠ g) y cs → Kd.FK k54 W' (fun k => ok k ∧ k ≠ gg) y cs := fun y cs h =>
    Kd.FK_mono (Kd.FK_step (Kd.FK_bound h) (fun k hk hlt => (hkeep k hk.1.1 hk.1.2 hlt).1)) (fun k hk => ⟨hk.1.1, (hkeep k hk.1.1 hk.1.2 hk.2).2⟩)
  refine N_close hh hs (by simp; omega) hc hm hb hok (fun j y hy => ?_)
  have hj : j < l.length + 1 := by have := (List.getElem?_eq_some_iff.1 hy).1; simp at this; omega
  have hsj : seg 6 cur' j = seg 6 (cur.take (i * 6) ++ (c ++ (cur.drop (i * 6)).take ((l.length - i) * 6))) j := by rw [← hcells]; exact (seg_take hj).symm
  rw [hsj]
  rcases Nat.lt_trichotomy j i with hji | hji | hji
  · rw [seg_left (by rw [hci]; exact Nat.mul_le_mul_right _ hji), seg_take hji]
    rw [List.getElem?_append_left (by omega), List.getElem?_take, if_pos hji] at hy
    exact step y _ (hf j y hy)
  · subst hji
    have e := seg_right (s := 6) (j := 0) (b := c ++ (cur.drop (j * 6)).take ((l.length - j) * 6)) hci
    rw [Nat.add_zero] at e
    rw [e, seg_one h6]
    rw [List.getElem?_append_right (by omega), hli, Nat.sub_self] at hy
    obtain rfl : x = y := by simpa using hy
    exact Kd.FK_mono (Kd.FK_step (Kd.FK_bound hx) (fun k hk hlt => (hkx k hk.1 hlt).1)) (fun k hk => ⟨(hkx k hk.1 hk.2).2.2, (hkx k hk.1 hk.2).2.1⟩)
  · obtain ⟨q, rfl⟩ : ∃ q, j = i + (1 + q) := ⟨j - i - 1, by omega⟩
    have e := seg_right (s := 6) (j := 1 + q) (b := c ++ (cur.drop (i * 6)).take ((l.length - i) * 6)) hci
    have e2 := seg_right (s := 6) (i := 1) (j := q) (b := (cur.drop (i * 6)).take ((l.length - i) * 6)) (a := c) (by omega)
    rw [e, e2, seg_take (by omega), seg_drop]
    rw [List.getElem?_append_right (by omega), hli, show i + (1 + q) - i = q + 1 by omega, List.getElem?_cons_succ, List.getElem?_drop] at hy
    exact step y _ (hf (i + q) y hy)
/-- copy, whatever an element's size. -/
theorem run_copy_sz {P : Program} (w : World) (dT sT ty elem : TypeId) (sz g o dLen dCap : Nat) (a : Addr) (sLen sCap k : Nat) (cur : List Value) (t : TypeId) (cs : List Value)
    (hu : P.underlying dT = some (.slice elem)) (hs : (P.info? elem).map (·.size) = some sz)
    (hg : w.heap[g]? = some (.cells cur.toArray t (0, 0))) (hn : k = Nat.min sLen dLen) (hc : cs.length = k * sz)
    (hsrc : ∀ j v, cs[j]? = some v → w.cell? (a.add j) = some v) (hfit : o + cs.length ≤ cur.length) (h1 : ∀ v ∈ cs, v.oneCell' = true) :
    (Builtin.copy_ #[dT, sT] ty #[.slice (some ⟨g, o, none⟩) dLen dCap, .slice (some a) sLen sCap]).run P w =
      .ok (goInt k) (w.setRow g (splice cur o cs).toArray) := by
  have hl := run_loadCells_list (P := P) w a cs hsrc
  have hst := run_storeCells_at P g o t cs 0 cur.toArray w hg (by simpa using hfit) h1
  cases hq : P.info? elem with
  | none => simp [hq] at hs
  | some i =>
    have hi : i.size = sz := by simpa [hq] using hs
    rw [hc] at hl
    simp [Builtin.copy_, run_underlying hu, Builtin.lenOf, Builtin.firstCells, sizeOf, typeInfo, hq, hi, ← hn, hl, hst, splice]
theorem wpList_copy_run {P : Program} (w : World) {ops : Array Oper} {rest : List Oper} {o : Oper} {a : Act} {Q : Exit → Act → World → Prop} (hgd : o.guard = none) (d s : Operand) (t t' : TypeId)
    (ho : o.op = .call { callee := .builtin .copy, args := #[d, s], argTypes := #[t, t'] }) (v u : Value) (hd : a.eval d = v) (hs : a.eval s = u) {v' : Value} {w' : World}
    (hr : (Builtin.copy_ #[t, t'] o.type #[v, u]).run P w = .ok v' w') (h : wpList P ops Q rest (a.put o.dst v') w') : wpList P ops Q (o :: rest) a w := by
  refine wpList_plain hgd fun K hK => ?_
  unfold Oper.wp execOp
  simp only [ho, resolve, invoke, builtin, Sem.run_bind, Sem.run_pure, Result.andThen_ok, List.map_toArray, List.map_cons, List.map_nil, hd, hs, hr]
  exact hK _ _ h
theorem step_copy_run {P : Program} {ops : Array Oper} {o : Oper} {a : Act} {w : World} {K : Act → World → Prop} {Q : Exit → Act → World → Prop} {E : Prop}
    (hg : o.guard = none) (d x : Operand) (dT sT : TypeId) (hop : o.op = Op.call { callee := Callee.builtin Builtin.copy, args := #[d, x], argTypes := #[dT, sT] })
    (v u : Value) (hd : a.eval d = v) (hx : a.eval x = u) {v' : Value} {w' : World} (hr : (Builtin.copy_ #[dT, sT] o.type #[v, u]).run P w = .ok v' w') (hK : K (a.put o.dst v') w') :
    if Region.wanted o (yielded ops a.tmps) = true then Oper.wp P o a w K Q else E := by
  have hw : Region.wanted o (yielded ops a.tmps) = true := by simp [Region.wanted, hg]
  rw [if_pos hw]
  unfold Oper.wp
  simp [execOp, hop, resolve, invoke, builtin, hd, hx, hr, Result.andThen]
  exact hK

end Go.Proofs.Ytadhfedbgeenlaa.H

/- slices.Insert of one record. -/
namespace Go.Proofs.Ytadhfedbgeenlaa.H
open Go.RowKit Go.Proofs.YtadhfedbgeenlaaW.PrintWords Go.Proofs.YtadhfedbgeenlaaW.PrintLast Go.Proofs.YtadhfedbgeenlaaW.PrintMore
set_option linter.unusedVariables false
set_option linter.unusedSimpArgs false
theorem FK_new (w : World) (ok : Nat → Prop) (key val : ByteArray) : Kd.FK k54 w ok ⟨key, val, 1, 0, ⟨#[]⟩, []⟩ [.string key, .string val, .int .i64 1, .int .i64 0, .string ⟨#[]⟩, .slice none 0 0] :=
  k54_mkF w ok ⟨key, val, 1, 0, ⟨#[]⟩, []⟩ (A5 := none) (c5 := 0) (Nat.le_refl _) (Kd.N_F (Kd.N_nil k60 60 w 0 ok))
theorem F_new {w : World} {vb : Nat} {key val : ByteArray} (hv : w.heap[vb]? = some (.cells #[.string key, .string val, .int .i64 1, .int .i64 0, .string ⟨#[]⟩, .slice none 0 0] 54 (0, 0))) : Kd.F k54 w (fun j => j = vb) (some ⟨vb, 0, none⟩) 1 [⟨key, val, 1, 0, ⟨#[]⟩, []⟩] :=
  Kd.N_F (N_close (base := 0) (cap := 1) (cur := [.string key, .string val, .int .i64 1, .int .i64 0, .string ⟨#[]⟩, .slice none 0 0]) hv rfl rfl (Nat.le_refl _) (by decide) (Nat.zero_le _) rfl (fun j x hx => by
    rcases j with _ | j
    · obtain rfl : ⟨key, val, 1, 0, ⟨#[]⟩, []⟩ = x := by simpa using hx
      exact FK_new w _ key val
    · simp at hx))

set_option maxHeartbeats 4000000 in
set_option maxRecDepth 100000 in
theorem insertE_calls (base : Nat) (w0 : World) (A : Option Addr) (n c vb : Nat) (key val : ByteArray) (l : List S54) (ok : Nat → Prop) (w : World) (hN : Kd.N k54 54 w base ok (.slice A n c) l) (hn : n ≤ 1000) (hB : Below base w0 w) (hbw : base ≤ w.heap.size) (hof : ∀ j, w.heap.size ≤ j → ok j)
    (hv : w.heap[vb]? = some (.cells #[.string key, .string val, .int .i64 1, .int .i64 0, .string ⟨#[]⟩, .slice none 0 0] 54 (0, 0))) (hvo : ok vb) (hvA : some vb ≠ (Value.slice A n c).ownBlock) :
    Calls Try.prog 66 #[.slice A n c, .int .i64 n, .slice (some ⟨vb, 0, none⟩) 1 1] w fun e w' => ∃ v, e = .returned v ∧ Kd.N k54 54 w' base ok v (l ++ [⟨key, val, 1, 0, ⟨#[]⟩, []⟩]) ∧ Below base w0 w' ∧ w.grownBy w' (Value.slice A n c).ownBlock := by
  obtain ⟨hnl, hnc, _⟩ := Kd.N_reads' hN
  have HN := Lib.hid hN
  have HB := Lib.hid hB
  have HF := Lib.hid (F_new hv)
  have HOK := Lib.hid (fun j (hj : j = vb) => (show ok j ∧ some j ≠ (Value.slice A n c).ownBlock from by subst hj; exact ⟨hvo, hvA⟩))
  have HBW := Lib.hid hbw
  have HOF := Lib.hid hof
  have HLN := Lib.hid hnl
  have b0 : (0 : Int) ≤ n := by omega
  have hA : (∃ g, A = some ⟨g, 0, none⟩) ∨ (A = none ∧ n = 0 ∧ c = 0) := by
    obtain ⟨h0, rows, hl, hR, hf⟩ := hN
    obtain ⟨r0, inner, hown, hrep⟩ := hR
    obtain ⟨h1, h2 | ⟨g', cap', cur, hv, _⟩⟩ := hown
    · have h3 := h2.1
      injection h3 with h4 h5 h6
      exact .inr ⟨h4, h5, h6⟩
    · injection hv with hv1
      exact .inl ⟨g', hv1⟩
  clear hN hB hv hvo hvA hbw hof hnl
  obtain ⟨rec, hrec⟩ : ∃ rec : S54, rec = ⟨key, val, 1, 0, ⟨#[]⟩, []⟩ := ⟨_, rfl⟩
  rw [← hrec] at HF ⊢
  clear hrec
  rcases hA with ⟨g, rfl⟩ | ⟨rfl, rfl, rfl⟩
  · by_cases hcn : c = n
    all_goals
      go_enter Try.func66, Try.ntmps66
      go_wp2_with (at_builtin; refine Kd.N_append_rows k54 (w0 := w0) base rfl (.tmp 23) (.tmp 24) 26 54 (.agg #[(.string ⟨#[]⟩), (.string ⟨#[]⟩), (.int .i64 0), (.int .i64 0), (.string ⟨#[]⟩), (.slice none 0 0)]) 88 rfl Try.underlying26 info54 rfl (by decide) (by omega) _ l [rec] _ _ _ ok (fun j => j = vb) rfl rfl ?aO ?aR ?aK ?aH ?aB ?aS ?aL ?_; (case aO => exact HN.out); (case aR => exact HF.out); (case aK => exact HOK.out); (case aH => exact HOF.out); (case aB => exact HB.out); (case aS => exact HBW.out); (case aL => have := HLN.out; simp; omega); intro v w2 ho hb hg hat)
      go_ret
      exact ⟨v, rfl, ho, hb, hg⟩
  · go_enter Try.func66, Try.ntmps66
    go_wp2_with (at_builtin; refine Kd.N_append_rows k54 (w0 := w0) base rfl (.tmp 23) (.tmp 24) 26 54 (.agg #[(.string ⟨#[]⟩), (.string ⟨#[]⟩), (.int .i64 0), (.int .i64 0), (.string ⟨#[]⟩), (.slice none 0 0)]) 88 rfl Try.underlying26 info54 rfl (by decide) (by omega) _ l [rec] _ _ _ ok (fun j => j = vb) rfl rfl ?aO ?aR ?aK ?aH ?aB ?aS ?aL ?_; (case aO => exact HN.out); (case aR => exact HF.out); (case aK => exact HOK.out); (case aH => exact HOF.out); (case aB => exact HB.out); (case aS => exact HBW.out); (case aL => have := HLN.out; simp; omega); intro v w2 ho hb hg hat)
    go_ret
    exact ⟨v, rfl, ho, hb, hg⟩

end Go.Proofs.Ytadhfedbgeenlaa.H

/- slices.Insert of one record between others. -/
namespace Go.Proofs.Ytadhfedbgeenlaa.H
open Go.RowKit Go.Proofs.YtadhfedbgeenlaaW.PrintWords Go.Proofs.YtadhfedbgeenlaaW.PrintLast Go.Proofs.YtadhfedbgeenlaaW.PrintMore
set_option linter.unusedVariables false
set_option linter.unusedSimpArgs false
theorem splice_ins {cur c cs : List Value} {a : Nat} (h : a + c.length + cs.length ≤ cur.length) : (splice (splice cur (a + c.length) cs) a c).take (a + c.length + cs.length) = cur.take a ++ (c ++ cs) := by
  have h1 : (cur.take (a + c.length)).length = a + c.length := by rw [List.length_take]; omega
  have e1 : (cur.take (a + c.length) ++ (cs ++ cur.drop (a + c.length + cs.length))).take a = cur.take a := by rw [List.take_append_of_le_length (by omega), List.take_take, Nat.min_eq_left (by omega)]
  have e2 : (cur.take (a + c.length) ++ (cs ++ cur.drop (a + c.length + cs.length))).drop (a + c.length) = cs ++ cur.drop (a + c.length + cs.length) := List.drop_left' h1
  unfold splice
  rw [e1, e2]
  rw [show cur.take a ++ (c ++ (cs ++ cur.drop (a + c.length + cs.length))) = (cur.take a ++ (c ++ cs)) ++ cur.drop (a + c.length + cs.length) by simp]
  rw [List.take_left']
  simp
  omega
theorem splice_ins2 {cur c cs : List Value} {a : Nat} (h : a + c.length + cs.length ≤ cur.length) : (splice (splice cur a c) (a + c.length) cs).take (a + c.length + cs.length) = cur.take a ++ (c ++ cs) := by
  have h1 : (cur.take a ++ c).length = a + c.length := by rw [List.length_append, List.length_take]; omega
  unfold splice
  rw [show cur.take a ++ (c ++ cur.drop (a + c.length)) = (cur.take a ++ c) ++ cur.drop (a + c.length) by simp, List.take_left' h1]
  rw [show cur.take a ++ c ++ (cs ++ ((cur.take a ++ c) ++ cur.drop (a + c.length)).drop (a + c.length + cs.length)) = (cur.take a ++ (c ++ cs)) ++ ((cur.take a ++ c) ++ cur.drop (a + c.length)).drop (a + c.length + cs.length) by simp]
  rw [List.take_left']
  simp
  omega
theorem run_size_rec (w : World) : (Go.sizeOf 54).run Try.prog w = .ok 6 w := by
  obtain ⟨i, hi, hs⟩ := Option.map_eq_some_iff.1 info_rec_size
  have hs2 : i.size = 6 := hs
  simp [Go.sizeOf, typeInfo, hi, hs2]
theorem shape_cells {w : World} {b : Nat} {cur : Array Value} {t : Nat} (h : w.heap[b]? = some (.cells cur t (0, 0))) : w.shape? b = some (t, cur.size) := by simp [World.shape?, h]
theorem cell_at {w : World} {g : Nat} {cur : List Value} {t : Nat} (h : w.heap[g]? = some (.cells cur.toArray t (0, 0))) (o : Nat) (j : Nat) (v : Value) (hv : (cur.drop o)[j]? = some v) : w.cell? ((⟨g, o, none⟩ : Addr).add j) = some v := by
  rw [Addr.add_lit, blk_cell h]
  rw [List.getElem?_drop] at hv
  simpa using hv
theorem one6 (key val : ByteArray) : ∀ v ∈ ([.string key, .string val, .int .i64 1, .int .i64 0, .string ⟨#[]⟩, .slice none 0 0] : List Value), v.oneCell' = true := by
  intro v hv
  simp only [List.mem_cons, List.not_mem_nil, or_false] at hv
  rcases hv with rfl | rfl | rfl | rfl | rfl | rfl <;> rfl
theorem keepX_row (w : World) (g : Nat) (cs : Array Value) : KeepX g w (w.setRow g cs) := ⟨by simp [World.setRow], fun k _ hk => setRow_other w g k cs hk⟩

set_option maxHeartbeats 4000000 in
set_option maxRecDepth 100000 in
theorem insertM_calls (base : Nat) (w0 : World) (g n c i vb : Nat) (key val : ByteArray) (l : List S54) (ok : Nat → Prop) (w : World) (hN : Kd.N k54 54 w base ok (.slice (some ⟨g, 0, none⟩) n c) l) (hn : n ≤ 1000) (hi : i < n) (hroom : n + 1 ≤ c) (hB : Below base w0 w) (hbw : base ≤ w.heap.size)
    (hv : w.heap[vb]? = some (.cells #[.string key, .string val, .int .i64 1, .int .i64 0, .string ⟨#[]⟩, .slice none 0 0] 54 (0, 0))) (hvg : vb ≠ g) :
    Calls Try.prog 66 #[.slice (some ⟨g, 0, none⟩) n c, .int .i64 i, .slice (some ⟨vb, 0, none⟩) 1 1] w fun e w' => ∃ v, e = .returned v ∧ Kd.N k54 54 w' base ok v (l.take i ++ ⟨key, val, 1, 0, ⟨#[]⟩, []⟩ :: l.drop i) ∧ Below base w0 w' ∧ KeepX g w w' := by
  obtain ⟨cur, hg, hcl, hnl, hnc, hcm, hbg, hokg, h1, hf⟩ := N_open hN
  obtain ⟨c6, hc6⟩ : ∃ c6 : List Value, c6 = [.string key, .string val, .int .i64 1, .int .i64 0, .string ⟨#[]⟩, .slice none 0 0] := ⟨_, rfl⟩
  obtain ⟨cs1, hcs1⟩ : ∃ cs1, cs1 = (cur.drop (i * 6)).take ((n - i) * 6) := ⟨_, rfl⟩
  have hl6 : c6.length = 6 := by rw [hc6]; rfl
  have hl1 : cs1.length = (n - i) * 6 := by rw [hcs1, List.length_take, List.length_drop]; omega
  obtain ⟨R1, hR1⟩ : ∃ R1, R1 = splice cur ((i + 1) * 6) cs1 := ⟨_, rfl⟩
  obtain ⟨R2, hR2⟩ : ∃ R2, R2 = splice R1 (i * 6) c6 := ⟨_, rfl⟩
  have hlR1 : R1.length = c * 6 := by rw [hR1, length_splice _ _ _ (by omega), hcl]
  have hlR2 : R2.length = c * 6 := by rw [hR2, length_splice _ _ _ (by omega), hlR1]
  have hov : ∀ lb cb, (callFunc 76 #[.slice (some ⟨vb, 0, none⟩) 1 1, .slice (some ⟨g, (i + 1) * 6, none⟩) lb cb]).run Try.prog w = .ok (.value (.bool false)) w := fun lb cb => by
    rw [run_callFunc_extern Try.func76 (by kernel_rfl) (by kernel_rfl) (by kernel_rfl) (e := Extern.SlicesOverlaps.overlaps #[26, 26] #[4]) (by kernel_rfl),
      Lib.run_overlaps_apart w 26 4 54 Try.underlying26 6 (fun w => run_size_rec w) ⟨vb, 0, none⟩ ⟨g, (i + 1) * 6, none⟩ 1 1 lb cb hvg 54 54 6 (c * 6) (by rw [shape_cells hv]; rfl) (by rw [shape_cells hg]; simp [hcl]) (by omega) (blk_frozen hv 0) (blk_frozen hv 6)]
    rfl
  have hcp1 : ∀ ty dc sc, (Builtin.copy_ #[26, 26] ty #[.slice (some ⟨g, (i + 1) * 6, none⟩) (n + 1 - (i + 1)) dc, .slice (some ⟨g, i * 6, none⟩) (n + 1 - i) sc]).run Try.prog w.drew = .ok (goInt ((n - i : Nat) : Int)) (w.drew.setRow g R1.toArray) := fun ty dc sc => by
    rw [hR1]
    exact run_copy_sz w.drew 26 26 ty 54 6 g ((i + 1) * 6) (n + 1 - (i + 1)) dc ⟨g, i * 6, none⟩ (n + 1 - i) sc (n - i) cur 54 cs1 Try.underlying26 info_rec_size hg (by simp only [Nat.min_def]; split <;> omega) hl1 (fun j v hj => by
      rw [hcs1, List.getElem?_take] at hj
      split at hj
      · exact cell_at (w := w.drew) hg (i * 6) j v hj
      · cases hj) (by omega) (fun v hv2 => h1 v (by
        rw [hcs1] at hv2
        have h3 := List.mem_iff_getElem?.1 hv2
        obtain ⟨j, hj⟩ := h3
        rw [List.getElem?_take] at hj
        split at hj
        · rw [List.getElem?_drop] at hj
          refine List.mem_iff_getElem?.2 ⟨i * 6 + j, ?_⟩
          rw [List.getElem?_take, if_pos (by omega)]
          exact hj
        · cases hj))
  have hg1 : (w.drew.setRow g R1.toArray).heap[g]? = some (.cells R1.toArray 54 (0, 0)) := setRow_heap w.drew g _ _ _ _ hg
  have hv1 : (w.drew.setRow g R1.toArray).heap[vb]? = some (.cells #[.string key, .string val, .int .i64 1, .int .i64 0, .string ⟨#[]⟩, .slice none 0 0] 54 (0, 0)) := (setRow_other w.drew g vb _ hvg).trans hv
  have hcp2 : ∀ ty dc, (Builtin.copy_ #[26, 26] ty #[.slice (some ⟨g, i * 6, none⟩) (n + 1 - i) dc, .slice (some ⟨vb, 0, none⟩) 1 1]).run Try.prog (w.drew.setRow g R1.toArray) = .ok (goInt ((1 : Nat) : Int)) ((w.drew.setRow g R1.toArray).setRow g R2.toArray) := fun ty dc => by
    rw [hR2]
    exact run_copy_sz (w.drew.setRow g R1.toArray) 26 26 ty 54 6 g (i * 6) (n + 1 - i) dc ⟨vb, 0, none⟩ 1 1 1 R1 54 c6 Try.underlying26 info_rec_size hg1 (by simp only [Nat.min_def]; split <;> omega) hl6 (fun j v hj => by
      rw [hc6] at hj
      exact cell_at (cur := [.string key, .string val, .int .i64 1, .int .i64 0, .string ⟨#[]⟩, .slice none 0 0]) hv1 0 j v (by simpa using hj)) (by omega) (by rw [hc6]; exact one6 key val)
  have HE := Lib.hid (show Kd.N k54 54 ((w.drew.setRow g R1.toArray).setRow g R2.toArray) base ok (.slice (some ⟨g, 0, none⟩) (n + 1) c) (l.take i ++ ⟨key, val, 1, 0, ⟨#[]⟩, []⟩ :: l.drop i) from by
    refine N_inserted (W := w) (cur := cur) (cur' := R2) (c := c6) (okx := fun _ => False) hnl (by omega) (by omega) hf (by rw [hc6]; exact FK_new w _ key val) (setRow_heap _ g _ _ _ _ hg1) hlR2 hroom hcm hbg hokg ?_ (fun k _ hk _ => ⟨(setRow_other _ g k _ hk).trans (setRow_other w.drew g k _ hk), hk⟩) (fun _ h => h.elim)
    have h := splice_ins (cur := cur) (c := c6) (cs := cs1) (a := i * 6) (by omega)
    rw [show i * 6 + c6.length = (i + 1) * 6 by omega] at h
    rw [hR2, hR1, show (n + 1) * 6 = (i + 1) * 6 + cs1.length by omega, h, hcs1])
  have HX := Lib.hid (And.intro (below_setRow (below_setRow (below_drew hB) hbg R1.toArray) hbg R2.toArray) (show KeepX g w ((w.drew.setRow g R1.toArray).setRow g R2.toArray) from keepX_trans (keepX_row w.drew g R1.toArray) (keepX_row _ g R2.toArray)))
  generalize (w.drew.setRow g R1.toArray).setRow g R2.toArray = W2 at *
  have z1 : ¬ ((i : Int) = n) := by omega
  have z2 : ¬ ((c : Int) < (n : Int) + 1) := by omega
  have z3 : ¬ (c = i + 1) := by omega
  have z4 : ¬ (c = i) := by omega
  have z5 : (0 : Int) ≤ i := by omega
  have z6 : (i : Int) ≤ n := by omega
  have z7 : (n : Int) + 1 ≤ c := by omega
  have z8 : (0 : Int) ≤ (n : Int) + 1 := by omega
  have z9 : (0 : Int) ≤ (i : Int) + 1 := by omega
  have z10 : (i : Int) + 1 ≤ (n : Int) + 1 := by omega
  have z11 : IntKind.i64.wrap ((n : Int) + 1) = (n : Int) + 1 := IntWalk.i64_in _ ⟨by omega, by omega⟩
  have z12 : IntKind.i64.wrap ((i : Int) + 1) = (i : Int) + 1 := IntWalk.i64_in _ ⟨by omega, by omega⟩
  have z13 : (i : Int) ≤ (n : Int) + 1 := by omega
  generalize (⟨key, val, 1, 0, ⟨#[]⟩, []⟩ : S54) = rec at HE ⊢
  clear hN hg hcl hnl hnc hcm hbg hokg h1 hf hc6 hcs1 hl6 hl1 hR1 hR2 hlR1 hlR2 hg1 hv1 hB hbw hv hvg
  go_enter Try.func66, Try.ntmps66
  go_upto_region 14 with (fail)
  go_wp2_with (simp only [hov])
  go_region_law (refine step_copy_run (by rfl) (.tmp 73) (.tmp 76) 26 26 (by rfl) (.slice (some ⟨g, (i + 1) * 6, none⟩) (n + 1 - (i + 1)) (c - (i + 1))) (.slice (some ⟨g, i * 6, none⟩) (n + 1 - i) (c - i)) ?e1 ?e2 (hcp1 _ _ _) ?_; (case e1 => (simp [Act.eval, Act.put])); (case e2 => (simp [Act.eval, Act.put])))
  all_goals
    go_wp2_with (at_builtin; refine wpList_copy_run _ rfl _ _ 26 26 rfl _ _ rfl rfl (hcp2 _ _) ?_)
    go_ret
    exact ⟨_, rfl, HE.out, HX.out⟩

set_option maxHeartbeats 4000000 in
set_option maxRecDepth 100000 in
theorem insertG_calls (base : Nat) (w0 : World) (g n c i vb : Nat) (key val : ByteArray) (l : List S54) (ok : Nat → Prop) (w : World) (hN : Kd.N k54 54 w base ok (.slice (some ⟨g, 0, none⟩) n c) l) (hn : n ≤ 1000) (hi : i < n) (hroom : c < n + 1) (hB : Below base w0 w) (hbw : base ≤ w.heap.size) (hof : ∀ j, w.heap.size ≤ j → ok j)
    (hv : w.heap[vb]? = some (.cells #[.string key, .string val, .int .i64 1, .int .i64 0, .string ⟨#[]⟩, .slice none 0 0] 54 (0, 0))) :
    Calls Try.prog 66 #[.slice (some ⟨g, 0, none⟩) n c, .int .i64 i, .slice (some ⟨vb, 0, none⟩) 1 1] w fun e w' => ∃ v, e = .returned v ∧ Kd.N k54 54 w' base ok v (l.take i ++ ⟨key, val, 1, 0, ⟨#[]⟩, []⟩ :: l.drop i) ∧ Below base w0 w' ∧ KeepX g w w' := by
  obtain ⟨cur, hg, hcl, hnl, hnc, hcm, hbg, hokg, h1, hf⟩ := N_open hN
  have hgw := blk_lt hg
  have hvw := blk_lt hv
  obtain ⟨c6, hc6⟩ : ∃ c6 : List Value, c6 = [.string key, .string val, .int .i64 1, .int .i64 0, .string ⟨#[]⟩, .slice none 0 0] := ⟨_, rfl⟩
  obtain ⟨cs0, hcs0⟩ : ∃ cs0, cs0 = cur.take (i * 6) := ⟨_, rfl⟩
  obtain ⟨cs1, hcs1⟩ : ∃ cs1, cs1 = (cur.drop (i * 6)).take ((n - i) * 6) := ⟨_, rfl⟩
  have hl6 : c6.length = 6 := by rw [hc6]; rfl
  have hl0 : cs0.length = i * 6 := by rw [hcs0, List.length_take]; omega
  have hl1 : cs1.length = (n - i) * 6 := by rw [hcs1, List.length_take, List.length_drop]; omega
  obtain ⟨i0, hi0, hzz⟩ := Option.map_eq_some_iff.1 info54
  simp only [Prod.mk.injEq] at hzz
  obtain ⟨hz0, hzs, hzb⟩ := hzz
  have hold : (Builtin.firstCells i0.size i (.slice (some ⟨g, 0, none⟩) i c)).run Try.prog w.drew = .ok cs0.toArray w.drew := by
    rw [hzs]
    exact run_firstCells_some w.drew 6 i ⟨g, 0, none⟩ i c cs0 hl0 (fun j v hj => by
      rw [hcs0, List.getElem?_take] at hj
      split at hj
      · exact cell_at (w := w.drew) hg 0 j v (by simpa using hj)
      · cases hj)
  obtain ⟨G, hG⟩ : ∃ G, G = grownCap w (n + 1) c 54 := ⟨_, rfl⟩
  have hGn : n + 1 ≤ G := by rw [hG]; exact grownCap_ge w _ _ _
  have hGm : G ≤ maxLen := by rw [hG]; exact grownCap_le_maxLen w (n + 1) c 54 (by unfold maxLen; omega)
  have hG63 : G ≤ 9223372036854775807 := by have := hGm; unfold maxLen at this; omega
  obtain ⟨ROW, hROW⟩ : ∃ ROW : List Value, ROW = cs0 ++ (Builtin.zeroCells (Value.cells (.agg #[(.string ⟨#[]⟩), (.string ⟨#[]⟩), (.int .i64 0), (.int .i64 0), (.string ⟨#[]⟩), (.slice none 0 0)])) (n + 1 - i)).toList ++ (Builtin.zeroCells (Value.cells (.agg #[(.string ⟨#[]⟩), (.string ⟨#[]⟩), (.int .i64 0), (.int .i64 0), (.string ⟨#[]⟩), (.slice none 0 0)])) (G - (n + 1))).toList := ⟨_, rfl⟩
  have hRl : ROW.length = G * 6 := by
    have e : ∀ m, (Builtin.zeroCells (Value.cells (.agg #[(.string ⟨#[]⟩), (.string ⟨#[]⟩), (.int .i64 0), (.int .i64 0), (.string ⟨#[]⟩), (.slice none 0 0)])) m).toList.length = m * 6 := fun m => by rw [Array.length_toList, size_zeroCells]; rfl
    rw [hROW, List.length_append, List.length_append, e, e, hl0]
    omega
  obtain ⟨W1, hW1⟩ : ∃ W1, W1 = w.drew.alloc (.cells ROW.toArray 54) := ⟨_, rfl⟩
  have hik : i + (n + 1 - i) = n + 1 := by omega
  have hkk : (n : Int) + 1 - (i : Int) = ((n + 1 - i : Nat) : Int) := by omega
  have hrz : ∀ ty, (Builtin.append_ #[26, 3] ty #[.slice (some ⟨g, 0, none⟩) i c, .int .i64 ((n : Int) + 1 - (i : Int))]).run Try.prog w = .ok (.slice (some ⟨w.heap.size, 0, none⟩) (n + 1) G) W1 := fun ty => by
    have h := Lib.run_append_grow_zeros w 26 3 ty 54 i0 _ .i64 .i64 Try.underlying26 Try.underlying3 hi0 hz0 (some ⟨g, 0, none⟩) i c cs0 hold (n + 1 - i) (by omega) (by omega) (by omega) (by omega) (by rw [hzb]; omega) (by rw [hzb, hik]; exact growslice_fits hroom (by omega))
    rw [hik, ← hG] at h
    have e : ∀ (a b : Array Value), cs0.toArray ++ a ++ b = (cs0 ++ a.toList ++ b.toList).toArray := fun a b => by apply Array.ext'; simp
    rw [hkk, h, hW1, hROW, e]
  have hgR : W1.heap[w.heap.size]? = some (.cells ROW.toArray 54 (0, 0)) := by rw [hW1]; exact new_at (W := w.drew) rfl _
  have hgg : W1.heap[g]? = some (.cells cur.toArray 54 (0, 0)) := by rw [hW1]; exact alloc_on (W := w.drew) hg _
  have hvv : W1.heap[vb]? = some (.cells #[.string key, .string val, .int .i64 1, .int .i64 0, .string ⟨#[]⟩, .slice none 0 0] 54 (0, 0)) := by rw [hW1]; exact alloc_on (W := w.drew) hv _
  have hB1 : Below base w0 W1 := by rw [hW1]; exact (below_drew hB).alloc hbw _
  have hX1 : KeepX g w W1 := by rw [hW1]; exact ⟨by simp, fun k hk _ => heap_alloc_old w.drew _ hk⟩
  clear hW1
  obtain ⟨RA, hRA⟩ : ∃ RA, RA = splice ROW (i * 6) c6 := ⟨_, rfl⟩
  obtain ⟨RB, hRB⟩ : ∃ RB, RB = splice RA ((i + 1) * 6) cs1 := ⟨_, rfl⟩
  have hlRA : RA.length = G * 6 := by rw [hRA, length_splice _ _ _ (by omega), hRl]
  have hlRB : RB.length = G * 6 := by rw [hRB, length_splice _ _ _ (by omega), hlRA]
  have hcp1 : ∀ ty dc, (Builtin.copy_ #[26, 26] ty #[.slice (some ⟨w.heap.size, i * 6, none⟩) (n + 1 - i) dc, .slice (some ⟨vb, 0, none⟩) 1 1]).run Try.prog W1 = .ok (goInt ((1 : Nat) : Int)) (W1.setRow w.heap.size RA.toArray) := fun ty dc => by
    rw [hRA]
    exact run_copy_sz W1 26 26 ty 54 6 w.heap.size (i * 6) (n + 1 - i) dc ⟨vb, 0, none⟩ 1 1 1 ROW 54 c6 Try.underlying26 info_rec_size hgR (by simp only [Nat.min_def]; split <;> omega) hl6 (fun j v hj => by
      rw [hc6] at hj
      exact cell_at (cur := [.string key, .string val, .int .i64 1, .int .i64 0, .string ⟨#[]⟩, .slice none 0 0]) hvv 0 j v (by simpa using hj)) (by omega) (by rw [hc6]; exact one6 key val)
  have hgA : (W1.setRow w.heap.size RA.toArray).heap[w.heap.size]? = some (.cells RA.toArray 54 (0, 0)) := setRow_heap W1 w.heap.size _ _ _ _ hgR
  have hgB : (W1.setRow w.heap.size RA.toArray).heap[g]? = some (.cells cur.toArray 54 (0, 0)) := (setRow_other W1 w.heap.size g _ (by omega)).trans hgg
  have hB2 : Below base w0 (W1.setRow w.heap.size RA.toArray) := below_setRow hB1 hbw _
  have hX2 : KeepX g w (W1.setRow w.heap.size RA.toArray) := ⟨Nat.le_trans hX1.1 (keepX_row W1 w.heap.size RA.toArray).1, fun k hk hkg => (setRow_other W1 w.heap.size k _ (by omega)).trans (hX1.2 k hk hkg)⟩
  generalize W1.setRow w.heap.size RA.toArray = W2 at *
  have hcp2 : ∀ ty dc sc, (Builtin.copy_ #[26, 26] ty #[.slice (some ⟨w.heap.size, (i + 1) * 6, none⟩) (n + 1 - (i + 1)) dc, .slice (some ⟨g, i * 6, none⟩) (n - i) sc]).run Try.prog W2.drew = .ok (goInt ((n - i : Nat) : Int)) (W2.drew.setRow w.heap.size RB.toArray) := fun ty dc sc => by
    rw [hRB]
    exact run_copy_sz W2.drew 26 26 ty 54 6 w.heap.size ((i + 1) * 6) (n + 1 - (i + 1)) dc ⟨g, i * 6, none⟩ (n - i) sc (n - i) RA 54 cs1 Try.underlying26 info_rec_size hgA (by simp only [Nat.min_def]; split <;> omega) hl1 (fun j v hj => by
      rw [hcs1, List.getElem?_take] at hj
      split at hj
      · exact cell_at (w := W2.drew) hgB (i * 6) j v hj
      · cases hj) (by omega) (fun v hv2 => h1 v (by
        rw [hcs1] at hv2
        have h3 := List.mem_iff_getElem?.1 hv2
        obtain ⟨j, hj⟩ := h3
        rw [List.getElem?_take] at hj
        split at hj
        · rw [List.getElem?_drop] at hj
          refine List.mem_iff_getElem?.2 ⟨i * 6 + j, ?_⟩
          rw [List.getElem?_take, if_pos (by omega)]
          exact hj
        · cases hj))
  have HX := Lib.hid (And.intro (below_setRow (below_drew hB2) hbw RB.toArray) (show KeepX g w (W2.drew.setRow w.heap.size RB.toArray) from ⟨Nat.le_trans hX2.1 (keepX_row W2.drew w.heap.size RB.toArray).1, fun k hk hkg => (setRow_other W2.drew w.heap.size k _ (by omega)).trans (hX2.2 k hk hkg)⟩))
  have HE := Lib.hid (show Kd.N k54 54 (W2.drew.setRow w.heap.size RB.toArray) base ok (.slice (some ⟨w.heap.size, 0, none⟩) (n + 1) G) (l.take i ++ ⟨key, val, 1, 0, ⟨#[]⟩, []⟩ :: l.drop i) from by
    refine N_inserted (W := w) (cur := cur) (cur' := RB) (c := c6) (okx := fun _ => False) hnl (by omega) (by omega) hf (by rw [hc6]; exact FK_new w _ key val) (setRow_heap W2.drew w.heap.size _ _ _ _ hgA) hlRB hGn hGm hbw (hof _ (Nat.le_refl _)) ?_ (fun k _ hk hlt => ⟨HX.out.2.2 k hlt hk, by omega⟩) (fun _ h => h.elim)
    have h := splice_ins2 (cur := ROW) (c := c6) (cs := cs1) (a := i * 6) (by omega)
    rw [show i * 6 + c6.length = (i + 1) * 6 by omega] at h
    rw [hRB, hRA, show (n + 1) * 6 = (i + 1) * 6 + cs1.length by omega, h, ← hcs0, ← hcs1]
    congr 1
    rw [hROW, List.append_assoc, ← hl0, List.take_left])
  generalize W2.drew.setRow w.heap.size RB.toArray = W3 at *
  have z1 : ¬ ((i : Int) = n) := by omega
  have z2 : (c : Int) < (n : Int) + 1 := by omega
  have z3 : ¬ (G = i + 1) := by omega
  have z4 : ¬ (c = i) := by omega
  have z4' : ¬ (G = i) := by omega
  have z5 : (0 : Int) ≤ i := by omega
  have z6 : (i : Int) ≤ n := by omega
  have z6' : (i : Int) ≤ c := by omega
  have z9 : (0 : Int) ≤ (i : Int) + 1 := by omega
  have z10 : (i : Int) + 1 ≤ (n : Int) + 1 := by omega
  have z11 : IntKind.i64.wrap ((n : Int) + 1) = (n : Int) + 1 := IntWalk.i64_in _ ⟨by omega, by omega⟩
  have z12 : IntKind.i64.wrap ((i : Int) + 1) = (i : Int) + 1 := IntWalk.i64_in _ ⟨by omega, by omega⟩
  have z14 : IntKind.i64.wrap ((n : Int) + 1 - (i : Int)) = (n : Int) + 1 - (i : Int) := IntWalk.i64_in _ ⟨by omega, by omega⟩
  have z13 : (i : Int) ≤ (n : Int) + 1 := by omega
  generalize (⟨key, val, 1, 0, ⟨#[]⟩, []⟩ : S54) = rec at HE ⊢
  clear hN hg hcl hnl hnc hcm hbg hokg h1 hf hc6 hcs1 hcs0 hl6 hl0 hl1 hRA hRB hlRA hlRB hROW hRl hgR hgg hvv hgA hgB hB1 hB2 hX1 hX2 hB hbw hv hof hold hG hi0 hz0 hzs hzb hgw hvw hik hkk hGn hGm hG63
  go_enter Try.func66, Try.ntmps66
  go_upto_region 9 with (fail)
  go_wp2_with (first | (at_builtin; refine Lib.wpList_append_run _ rfl _ _ _ _ rfl _ _ rfl rfl _ _ (hrz _) ?_) | (at_builtin; refine wpList_copy_run _ rfl _ _ 26 26 rfl _ _ rfl rfl (hcp1 _ _) ?_))
  go_region_law (refine step_copy_run (by rfl) (.tmp 50) (.tmp 53) 26 26 (by rfl) (.slice (some ⟨w.heap.size, (i + 1) * 6, none⟩) (n + 1 - (i + 1)) (G - (i + 1))) (.slice (some ⟨g, i * 6, none⟩) (n - i) (c - i)) ?e1 ?e2 (hcp2 _ _ _) ?_; (case e1 => (simp [Act.eval, Act.put])); (case e2 => (simp [Act.eval, Act.put])))
  all_goals
    go_wp2
    go_ret
    exact ⟨_, rfl, HE.out, HX.out⟩

end Go.Proofs.Ytadhfedbgeenlaa.H
