/- ControlTells: the outer round's second half. -/
import Derived.Test.YtdbgpakmbjhmgaaLEr
namespace Go.Proofs.Ytdbgpakmbjhmgaa.H
open Go.RowKit Go.Proofs.YtdbgpakmbjhmgaaW.PrintWords Go.Proofs.YtdbgpakmbjhmgaaW.PrintLast Go.Proofs.YtdbgpakmbjhmgaaW.PrintMore
set_option linter.unusedVariables false
set_option linter.unusedSimpArgs false
noncomputable def outerHead (n : Nat) : Code := headC ((fromRegion n tellsBody).getD .skip)
noncomputable def outerTail (n : Nat) : Code := tailC ((fromRegion n tellsBody).getD .skip)

set_option maxHeartbeats 8000000 in
set_option maxRecDepth 1000000 in
theorem tells_midB {wb W : World} {ga gb gc : Nat} {x : Ctl} {r : Int × Ctl} {bl : Int × Int × Bool} {n m : Int} {Q0 : Exit → Act → World → Prop} {c0 c1 c2 c3 c6 c7 c8 c9 c10 c11 c12 c13 c14 c23 c24 c25 c26 c27 c28 c29 c30 c31 c32 c33 c34 c35 c36 c37 c38 c39 c40 c41 c42 c43 c44 c45 c46 c47 c48 c49 c50 c51 c52 c53 c54 c55 c56 c57 c58 c59 c60 c61 c62 c63 c64 c65 c66 c67 c68 c69 c70 c71 c72 c73 c74 c75 c76 c77 c78 c79 c80 c81 c82 c83 c84 c85 c86 c87 c88 c89 c90 c91 c92 c93 c94 c95 c96 c97 c98 c99 c100 c101 c102 c103 c104 c105 c106 c107 c108 c109 c110 c111 c112 c113 c114 c115 c116 c117 c118 c119 c120 c121 c122 c123 c124 c125 c126 c127 c128 c129 c130 c131 c132 c133 c134 c135 c136 c137 c138 c139 c140 c141 c142 c143 c144 c145 c146 c147 c148 c149 c150 c151 c152 c153 c154 c155 c156 c157 c158 c159 c160 c161 c162 c163 c164 c165 c166 c167 c168 c169 c170 c171 c172 c173 c174 c175 c176 c177 c178 c179 c180 c181 c182 c183 c184 c185 c186 c187 c188 c189 c190 c191 c192 c193 c194 c195 c196 c197 c198 c199 c200 c201 c202 c203 c204 c205 c206 c207 c208 c209 c210 c211 c212 c213 c214 c215 c216 c217 c218 c219 c220 c221 c222 c223 c224 c225 c226 c227 c228 c229 c230 c231 c232 c233 c234 c235 c236 c237 c238 c239 c240 c241 c242 c243 c244 c245 c246 c247 c248 c249 c250 c251 c252 c253 c254 c255 c256 c257 c258 c259 c260 c261 c262 c263 c264 c265 c266 c267 c268 c269 c270 c271 c272 c273 c274 c275 c276 c277 c278 c279 c280 : Value} (hc : HoldsC gc x wb) (hsm : Small x) (hn : InI n) (hm : InI m) (hbl : bl = balanceC x.1 x.2.1 x.2.2) (hti : TI wb ga gb r.2 r.2 [] W)
    (hnext : ∀ W' : World, Below wb.heap.size wb W' → ∀ (u12 u16 u17 u18 u19 u20 u21 u22 u23 u24 u25 u27 u65 u66 u67 u68 u69 u70 u71 u72 u73 u74 u75 u76 u77 u78 u79 u80 u81 u82 u83 u84 u85 u86 u87 u88 u89 u90 u91 u92 u93 u94 u95 u96 u97 u98 u99 u100 u101 u102 u103 u104 u105 u106 u107 u108 u109 u110 u111 u112 u113 u114 u115 u116 u117 u118 u119 u120 u121 u122 u123 u124 u125 u126 u127 u128 u129 u130 u131 u132 u133 u134 u135 u136 u137 u138 u139 u140 u141 u142 u143 u144 u145 u146 u147 u148 u149 u150 u151 u152 u153 u154 u155 u156 u157 u158 u159 u160 u161 u162 u163 u164 u165 u166 u167 u168 u169 u170 u171 u172 u173 u174 u175 u176 u177 u178 u179 u180 u181 u182 u183 u184 u185 u186 u187 u188 u189 u190 u191 u192 u193 u194 u195 u196 u197 u198 u199 u200 u201 u202 u203 u204 u205 u206 u207 u208 u209 u210 u211 u212 u213 u214 u215 u216 u217 u218 u219 u220 u221 u222 u223 u224 u225 u226 u227 u228 u229 u230 u231 u232 u233 u234 u235 u236 u237 u238 u239 u240 u241 u242 u243 u244 u245 u246 u247 u248 u249 u250 u251 u252 u253 u254 u255 u256 u257 u258 u259 u260 u261 u262 u263 u264 u265 u266 u267 u268 u269 u270 u271 u272 u273 u274 u275 u276 u277 u278 u279 : Value), Q0 .normal ⟨List.toArray (c0 :: c1 :: c2 :: c3 :: (.int .i64 n : Value) :: (.int .i64 m : Value) :: c6 :: c7 :: c8 :: c9 :: c10 :: c11 :: u12 :: c13 :: c14 :: (.pointer (some ⟨gc, 0, none⟩) : Value) :: u16 :: u17 :: u18 :: u19 :: u20 :: u21 :: u22 :: u23 :: u24 :: u25 :: c26 :: u27 :: c28 :: c29 :: c30 :: c31 :: c32 :: c33 :: c34 :: c35 :: c36 :: c37 :: c38 :: c39 :: c40 :: c41 :: c42 :: c43 :: c44 :: c45 :: c46 :: c47 :: c48 :: c49 :: c50 :: c51 :: c52 :: c53 :: c54 :: c55 :: c56 :: c57 :: c58 :: c59 :: c60 :: c61 :: c62 :: c63 :: c64 :: u65 :: u66 :: u67 :: u68 :: u69 :: u70 :: u71 :: u72 :: u73 :: u74 :: u75 :: u76 :: u77 :: u78 :: u79 :: u80 :: u81 :: u82 :: u83 :: u84 :: u85 :: u86 :: u87 :: u88 :: u89 :: u90 :: u91 :: u92 :: u93 :: u94 :: u95 :: u96 :: u97 :: u98 :: u99 :: u100 :: u101 :: u102 :: u103 :: u104 :: u105 :: u106 :: u107 :: u108 :: u109 :: u110 :: u111 :: u112 :: u113 :: u114 :: u115 :: u116 :: u117 :: u118 :: u119 :: u120 :: u121 :: u122 :: u123 :: u124 :: u125 :: u126 :: u127 :: u128 :: u129 :: u130 :: u131 :: u132 :: u133 :: u134 :: u135 :: u136 :: u137 :: u138 :: u139 :: u140 :: u141 :: u142 :: u143 :: u144 :: u145 :: u146 :: u147 :: u148 :: u149 :: u150 :: u151 :: u152 :: u153 :: u154 :: u155 :: u156 :: u157 :: u158 :: u159 :: u160 :: u161 :: u162 :: u163 :: u164 :: u165 :: u166 :: u167 :: u168 :: u169 :: u170 :: u171 :: u172 :: u173 :: u174 :: u175 :: u176 :: u177 :: u178 :: u179 :: u180 :: u181 :: u182 :: u183 :: u184 :: u185 :: u186 :: u187 :: u188 :: u189 :: u190 :: u191 :: u192 :: u193 :: u194 :: u195 :: u196 :: u197 :: u198 :: u199 :: u200 :: u201 :: u202 :: u203 :: u204 :: u205 :: u206 :: u207 :: u208 :: u209 :: u210 :: u211 :: u212 :: u213 :: u214 :: u215 :: u216 :: u217 :: u218 :: u219 :: u220 :: u221 :: u222 :: u223 :: u224 :: u225 :: u226 :: u227 :: u228 :: u229 :: u230 :: u231 :: u232 :: u233 :: u234 :: u235 :: u236 :: u237 :: u238 :: u239 :: u240 :: u241 :: u242 :: u243 :: u244 :: u245 :: u246 :: u247 :: u248 :: u249 :: u250 :: u251 :: u252 :: u253 :: u254 :: u255 :: u256 :: u257 :: u258 :: u259 :: u260 :: u261 :: u262 :: u263 :: u264 :: u265 :: u266 :: u267 :: u268 :: u269 :: u270 :: u271 :: u272 :: u273 :: u274 :: u275 :: u276 :: u277 :: u278 :: u279 :: c280 :: []), []⟩ W') :
    ∀ K : Act → World → Prop, (∀ a w, Code.wp Try.prog (outerTail 13) Q0 a w → K a w) → Code.wp Try.prog (outerHead 13) (Exit.then K Q0) ⟨List.toArray (c0 :: c1 :: c2 :: c3 :: (.int .i64 n : Value) :: (.int .i64 m : Value) :: c6 :: c7 :: c8 :: c9 :: c10 :: c11 :: c12 :: c13 :: c14 :: (.pointer (some ⟨gc, 0, none⟩) : Value) :: (.pointer (some ⟨ga, 0, none⟩) : Value) :: (.int .i64 r.1 : Value) :: (.pointer (some ⟨gb, 0, none⟩) : Value) :: (.int .i64 r.1 : Value) :: (.int .i64 bl.1 : Value) :: (.int .i64 bl.2.1 : Value) :: (.bool bl.2.2 : Value) :: c23 :: c24 :: c25 :: c26 :: c27 :: c28 :: c29 :: c30 :: c31 :: c32 :: c33 :: c34 :: c35 :: c36 :: c37 :: c38 :: c39 :: c40 :: c41 :: c42 :: c43 :: c44 :: c45 :: c46 :: c47 :: c48 :: c49 :: c50 :: c51 :: c52 :: c53 :: c54 :: c55 :: c56 :: c57 :: c58 :: c59 :: c60 :: c61 :: c62 :: c63 :: c64 :: c65 :: c66 :: c67 :: c68 :: c69 :: c70 :: c71 :: c72 :: c73 :: c74 :: c75 :: c76 :: c77 :: c78 :: c79 :: c80 :: c81 :: c82 :: c83 :: c84 :: c85 :: c86 :: c87 :: c88 :: c89 :: c90 :: c91 :: c92 :: c93 :: c94 :: c95 :: c96 :: c97 :: c98 :: c99 :: c100 :: c101 :: c102 :: c103 :: c104 :: c105 :: c106 :: c107 :: c108 :: c109 :: c110 :: c111 :: c112 :: c113 :: c114 :: c115 :: c116 :: c117 :: c118 :: c119 :: c120 :: c121 :: c122 :: c123 :: c124 :: c125 :: c126 :: c127 :: c128 :: c129 :: c130 :: c131 :: c132 :: c133 :: c134 :: c135 :: c136 :: c137 :: c138 :: c139 :: c140 :: c141 :: c142 :: c143 :: c144 :: c145 :: c146 :: c147 :: c148 :: c149 :: c150 :: c151 :: c152 :: c153 :: c154 :: c155 :: c156 :: c157 :: c158 :: c159 :: c160 :: c161 :: c162 :: c163 :: c164 :: c165 :: c166 :: c167 :: c168 :: c169 :: c170 :: c171 :: c172 :: c173 :: c174 :: c175 :: c176 :: c177 :: c178 :: c179 :: c180 :: c181 :: c182 :: c183 :: c184 :: c185 :: c186 :: c187 :: c188 :: c189 :: c190 :: c191 :: c192 :: c193 :: c194 :: c195 :: c196 :: c197 :: c198 :: c199 :: c200 :: c201 :: c202 :: c203 :: c204 :: c205 :: c206 :: c207 :: c208 :: c209 :: c210 :: c211 :: c212 :: c213 :: c214 :: c215 :: c216 :: c217 :: c218 :: c219 :: c220 :: c221 :: c222 :: c223 :: c224 :: c225 :: c226 :: c227 :: c228 :: c229 :: c230 :: c231 :: c232 :: c233 :: c234 :: c235 :: c236 :: c237 :: c238 :: c239 :: c240 :: c241 :: c242 :: c243 :: c244 :: c245 :: c246 :: c247 :: c248 :: c249 :: c250 :: c251 :: c252 :: c253 :: c254 :: c255 :: c256 :: c257 :: c258 :: c259 :: c260 :: c261 :: c262 :: c263 :: c264 :: c265 :: c266 :: c267 :: c268 :: c269 :: c270 :: c271 :: c272 :: c273 :: c274 :: c275 :: c276 :: c277 :: c278 :: c279 :: c280 :: []), []⟩ W := by
  intro K hK
  have HC := Lib.hid hc
  have HSM := Lib.hid hsm
  have HEX := Lib.hid hnext
  have HBL := Lib.hid hbl
  have HTJ := Lib.hid hti
  have HPa := Lib.hid (fun w => pick_calls n 10 hn (by decide) (by decide) w)
  have HPd := Lib.hid (fun w => pick_calls n 8 hn (by decide) (by decide) w)
  have HPe := Lib.hid (fun w => pick_calls m 10 hm (by decide) (by decide) w)
  have HPf := Lib.hid (fun w => pick_calls m 2 hm (by decide) (by decide) w)
  obtain ⟨pa0, pa1⟩ := pickI_bound n 10 (by decide)
  obtain ⟨pe0, pe1⟩ := pickI_bound m 10 (by decide)
  obtain ⟨pf0, pf1⟩ := pickI_bound m 2 (by decide)
  generalize pickI n 10 = pa at *
  generalize pickI n 8 = pd at *
  generalize pickI m 10 = pe at *
  generalize pickI m 2 = pf at *
  clear hc hsm hn hm hbl hti hnext
  rename World => wc
  conv at hK => enter [a, w, 1, 2]; whnf
  conv => arg 2; whnf
  obtain ⟨Ak1, ck1, Ak2, ck2, hgk, hck, hdk, hlk, hmk⟩ := HC.out.below HTJ.out.1
  obtain ⟨k0, k1, k2, _, _, _, kl⟩ := three_cells hgk
  have HCT := Lib.hid (balanceR_calls x.1 Ak1 ck1 x.2.1 Ak2 ck2 x.2.2 wc hck hdk)
  rw [balanceR_eq, ← HBL.out] at HCT
  clear hgk hck hdk hlk hmk
  go_upto_region 13 with (fail)
  go_cut [23, 24, 25] from 65 to 279 (fun v1 v2 v3 W => v1 = .int .i64 bl.1 ∧ v2 = .int .i64 bl.2.1 ∧ v3 = .bool bl.2.2 ∧ Aside0 (TI wb ga gb r.2 r.2 [] W))
  case first =>
    go_wp2_with fail
    refine HCT.out.mono ?_
    rintro e W1 ⟨rfl, hb⟩
    go_wp2
    go_meet
    case rel => first | exact ⟨rfl, rfl, rfl, ⟨HTJ.out.below hb⟩⟩ | ((repeat apply Exists.intro); exact ⟨⟨rfl, rfl, rfl, ⟨HTJ.out.below hb⟩⟩, rfl⟩)
  clear HCT k0 k1 k2 kl HTJ
  obtain ⟨rfl, rfl, rfl, HTK⟩ := hcut
  obtain ⟨Aj1, cj1, Aj2, cj2, hgj, hcj, hdj, hlj, hmj⟩ := HTK.out.2.2.2.2.1.holds
  obtain ⟨j0, j1, j2, _, _, _, jl⟩ := three_cells hgj
  obtain ⟨Al1, cl1, Al2, cl2, hgl, hcl, hdl, hll, hml⟩ := HTK.out.2.2.2.2.2.1.holds
  obtain ⟨l0, l1, l2, _, _, _, ll⟩ := three_cells hgl
  have HQ := Lib.hid (same_is (c1 := cj1) (c2 := cj2) (d1 := cl1) (d2 := cl2) (sameK_yes (rfl : r.2 = r.2)) hcj hdj hcl hdl)
  clear hgj hcj hdj hlj hmj hgl hcl hdl hll hml
  go_upto_region 14 with (fail)
  go_cut [128] from 65 to 279 (fun v W => v = .bool false ∧ Aside0 (TI wb ga gb r.2 r.2 [] W))
  case first =>
    go_wp2_with fail
    refine HQ.out.mono ?_
    rintro e W1 ⟨rfl, hb⟩
    go_wp2
    go_meet
    case rel => first | exact ⟨by first | rfl | simp, ⟨HTK.out.below hb⟩⟩ | ((repeat apply Exists.intro); exact ⟨⟨by first | rfl | simp, ⟨HTK.out.below hb⟩⟩, rfl⟩)
  clear HQ j0 j1 j2 jl l0 l1 l2 ll HTK
  obtain ⟨rfl, HTL⟩ := hcut
  clear HBL
  go_upto_region 16 with (fail)
  go_cut [145, 146, 147] from 65 to 279 (fun v1 v2 v3 W => v2 = .int .i64 3 ∧ v3 = .int .i64 0 ∧ ∃ gX, v1 = .slice (some ⟨gX, 0, none⟩) 3 3 ∧ Aside0 (TI wb ga gb r.2 r.2 [(gX, .cells #[.int .i64 n, .int .i64 m, .int .i64 pd, .int .i64 (1 + pe), .int .i64 (1 + pa), .int .i64 (1 + pf)] 39 (0, 0))] W))
  case first =>
    have w1 : IntKind.i64.wrap (1 + pe) = 1 + pe := IntWalk.i64_in _ ⟨by omega, by omega⟩
    have w2 : IntKind.i64.wrap (1 + pa) = 1 + pa := IntWalk.i64_in _ ⟨by omega, by omega⟩
    have w3 : IntKind.i64.wrap (1 + pf) = 1 + pf := IntWalk.i64_in _ ⟨by omega, by omega⟩
    go_wp2_with fail
    refine (HPd.out _).mono ?_
    rintro e W' ⟨rfl, rfl⟩
    go_wp2_with fail
    refine (HPe.out _).mono ?_
    rintro e W' ⟨rfl, rfl⟩
    go_wp2_with fail
    refine (HPa.out _).mono ?_
    rintro e W' ⟨rfl, rfl⟩
    go_wp2_with fail
    refine (HPf.out _).mono ?_
    rintro e W' ⟨rfl, rfl⟩
    go_wp2
    go_meet
    case rel => first | exact ⟨rfl, rfl, _, rfl, ⟨HTL.out.add _⟩⟩ | ((repeat apply Exists.intro); exact ⟨⟨rfl, rfl, _, rfl, ⟨HTL.out.add _⟩⟩, rfl⟩)
  obtain ⟨rfl, rfl, gX, rfl, HTM⟩ := hcut
  clear HTL
  go_wp2
  refine tells_inner (ga := ga) (gb := gb) (gc := gc) (gX := gX) (x := x) HC.out HSM.out HTM.out ?_
  intro ra rb W' HTN
  intros
  have HTV := Lib.hid HTN.1
  clear HTN HTM HC HSM
  go_wp2
  exact HEX.out _ HTV.out _ _ _ _ _ _ _ _ _ _ _ _ _ _ _ _ _ _ _ _ _ _ _ _ _ _ _ _ _ _ _ _ _ _ _ _ _ _ _ _ _ _ _ _ _ _ _ _ _ _ _ _ _ _ _ _ _ _ _ _ _ _ _ _ _ _ _ _ _ _ _ _ _ _ _ _ _ _ _ _ _ _ _ _ _ _ _ _ _ _ _ _ _ _ _ _ _ _ _ _ _ _ _ _ _ _ _ _ _ _ _ _ _ _ _ _ _ _ _ _ _ _ _ _ _ _ _ _ _ _ _ _ _ _ _ _ _ _ _ _ _ _ _ _ _ _ _ _ _ _ _ _ _ _ _ _ _ _ _ _ _ _ _ _ _ _ _ _ _ _ _ _ _ _ _ _ _ _ _ _ _ _ _ _ _ _ _ _ _ _ _ _ _ _ _ _ _ _ _ _ _ _ _ _ _ _ _ _ _ _ _ _ _ _ _ _ _ _ _ _ _ _ _ _ _ _ _
end Go.Proofs.Ytdbgpakmbjhmgaa.H
