/- ControlTells: a command. -/
import Derived.Test.YtdbgpakmbjhmgaaLEq
namespace Go.Proofs.Ytdbgpakmbjhmgaa.H
open Go.RowKit Go.Proofs.YtdbgpakmbjhmgaaW.PrintWords Go.Proofs.YtdbgpakmbjhmgaaW.PrintLast Go.Proofs.YtdbgpakmbjhmgaaW.PrintMore
set_option linter.unusedVariables false
set_option linter.unusedSimpArgs false

set_option maxHeartbeats 8000000 in
set_option maxRecDepth 1000000 in
theorem tells_cmd2 {wb W : World} {ga gb gc gX gx : Nat} {x ra rb : Ctl} {x0 x1 n m pd pe pa pf : Int} {Q0 : Exit → Act → World → Prop} {c0 c1 c2 c3 c4 c5 c6 c7 c8 c9 c10 c11 c12 c13 c14 c17 c19 c20 c21 c22 c23 c24 c25 c26 c28 c29 c30 c31 c32 c33 c34 c35 c36 c37 c38 c39 c40 c41 c42 c43 c44 c45 c46 c47 c48 c49 c50 c51 c52 c53 c54 c55 c56 c57 c58 c59 c60 c61 c62 c63 c64 c65 c66 c67 c68 c69 c70 c71 c72 c73 c74 c75 c76 c77 c78 c79 c80 c81 c82 c83 c84 c85 c86 c87 c88 c89 c90 c91 c92 c93 c94 c95 c96 c97 c98 c99 c100 c101 c102 c103 c104 c105 c106 c107 c108 c109 c110 c111 c112 c113 c114 c115 c116 c117 c118 c119 c120 c121 c122 c123 c124 c125 c126 c127 c128 c129 c130 c131 c132 c133 c134 c135 c136 c137 c138 c139 c140 c141 c142 c143 c144 c145 c146 c147 c148 c149 c150 c151 c152 c153 c154 c155 c156 c157 c158 c159 c160 c161 c162 c163 c164 c165 c166 c167 c168 c169 c170 c171 c172 c173 c174 c175 c176 c177 c178 c179 c180 c181 c182 c183 c184 c185 c186 c187 c188 c189 c190 c191 c192 c193 c194 c195 c196 c197 c198 c199 c200 c201 c202 c203 c204 c205 c206 c207 c208 c209 c210 c211 c212 c213 c214 c215 c216 c217 c218 c219 c220 c221 c222 c223 c224 c225 c226 c227 c228 c229 c230 c231 c232 c233 c234 c235 c236 c237 c238 c239 c240 c241 c242 c243 c244 c245 c246 c247 c248 c249 c250 c251 c252 c253 c254 c255 c256 c257 c258 c259 c260 c261 c262 c263 c264 c265 c266 c267 c268 c269 c270 c271 c272 c273 c274 c275 c276 c277 c278 c279 c280 : Value} (hc : HoldsC gc x wb) (hsm : Small x) (hti : TI wb ga gb ra rb [(gx, .cells #[.int .i64 x0, .int .i64 x1] 39 (0, 0)), (gX, .cells #[.int .i64 n, .int .i64 m, .int .i64 pd, .int .i64 (1 + pe), .int .i64 (1 + pa), .int .i64 (1 + pf)] 39 (0, 0))] W)
    (hnext : ∀ (ra rb : Ctl) (W' : World), TI wb ga gb ra rb [(gx, .cells #[.int .i64 x0, .int .i64 x1] 39 (0, 0)), (gX, .cells #[.int .i64 n, .int .i64 m, .int .i64 pd, .int .i64 (1 + pe), .int .i64 (1 + pa), .int .i64 (1 + pf)] 39 (0, 0))] W' → ∀ (u17 u19 u148 u149 u150 u151 u152 u153 u154 u155 u156 u157 u158 u159 u160 u161 u162 u163 u164 u165 u166 u167 u168 u169 u170 u171 u172 u173 u174 u175 u176 u177 u178 u179 u180 u181 u182 u183 u184 u185 u186 u187 u188 u189 u190 u191 u192 u193 u194 u195 u196 u197 u198 u199 u200 u201 u202 u203 u204 u205 u206 u207 u208 u209 u210 u211 u212 u213 u214 u215 u216 u217 u218 u219 u220 u221 u222 u223 u224 u225 u226 u227 u228 u229 u230 u231 u232 u233 u234 u235 u236 u237 u238 u239 u240 u241 u242 u243 u244 u245 u246 u247 u248 u249 u250 u251 u252 u253 u254 u255 u256 u257 u258 u259 u260 u261 u262 u263 u264 u265 u266 u267 u268 u269 u270 u271 u272 u273 u274 u275 u276 u277 u278 : Value), ∀ K : Act → World → Prop, (∀ a w, Code.wp Try.prog (tellsTail 31) Q0 a w → K a w) → Code.wp Try.prog (tellsHead 31) (Exit.then K Q0) ⟨List.toArray (c0 :: c1 :: c2 :: c3 :: c4 :: c5 :: c6 :: c7 :: c8 :: c9 :: c10 :: c11 :: c12 :: c13 :: c14 :: (.pointer (some ⟨gc, 0, none⟩) : Value) :: (.pointer (some ⟨ga, 0, none⟩) : Value) :: u17 :: (.pointer (some ⟨gb, 0, none⟩) : Value) :: u19 :: c20 :: c21 :: c22 :: c23 :: c24 :: c25 :: c26 :: (.pointer (some ⟨gx, 0, none⟩) : Value) :: c28 :: c29 :: c30 :: c31 :: c32 :: c33 :: c34 :: c35 :: c36 :: c37 :: c38 :: c39 :: c40 :: c41 :: c42 :: c43 :: c44 :: c45 :: c46 :: c47 :: c48 :: c49 :: c50 :: c51 :: c52 :: c53 :: c54 :: c55 :: c56 :: c57 :: c58 :: c59 :: c60 :: c61 :: c62 :: c63 :: c64 :: c65 :: c66 :: c67 :: c68 :: c69 :: c70 :: c71 :: c72 :: c73 :: c74 :: c75 :: c76 :: c77 :: c78 :: c79 :: c80 :: c81 :: c82 :: c83 :: c84 :: c85 :: c86 :: c87 :: c88 :: c89 :: c90 :: c91 :: c92 :: c93 :: c94 :: c95 :: c96 :: c97 :: c98 :: c99 :: c100 :: c101 :: c102 :: c103 :: c104 :: c105 :: c106 :: c107 :: c108 :: c109 :: c110 :: c111 :: c112 :: c113 :: c114 :: c115 :: c116 :: c117 :: c118 :: c119 :: c120 :: c121 :: c122 :: c123 :: c124 :: c125 :: c126 :: c127 :: c128 :: c129 :: c130 :: c131 :: c132 :: c133 :: c134 :: c135 :: c136 :: c137 :: c138 :: c139 :: c140 :: c141 :: c142 :: c143 :: c144 :: c145 :: c146 :: c147 :: u148 :: u149 :: u150 :: u151 :: u152 :: u153 :: u154 :: u155 :: u156 :: u157 :: u158 :: u159 :: u160 :: u161 :: u162 :: u163 :: u164 :: u165 :: u166 :: u167 :: u168 :: u169 :: u170 :: u171 :: u172 :: u173 :: u174 :: u175 :: u176 :: u177 :: u178 :: u179 :: u180 :: u181 :: u182 :: u183 :: u184 :: u185 :: u186 :: u187 :: u188 :: u189 :: u190 :: u191 :: u192 :: u193 :: u194 :: u195 :: u196 :: u197 :: u198 :: u199 :: u200 :: u201 :: u202 :: u203 :: u204 :: u205 :: u206 :: u207 :: u208 :: u209 :: u210 :: u211 :: u212 :: u213 :: u214 :: u215 :: u216 :: u217 :: u218 :: u219 :: u220 :: u221 :: u222 :: u223 :: u224 :: u225 :: u226 :: u227 :: u228 :: u229 :: u230 :: u231 :: u232 :: u233 :: u234 :: u235 :: u236 :: u237 :: u238 :: u239 :: u240 :: u241 :: u242 :: u243 :: u244 :: u245 :: u246 :: u247 :: u248 :: u249 :: u250 :: u251 :: u252 :: u253 :: u254 :: u255 :: u256 :: u257 :: u258 :: u259 :: u260 :: u261 :: u262 :: u263 :: u264 :: u265 :: u266 :: u267 :: u268 :: u269 :: u270 :: u271 :: u272 :: u273 :: u274 :: u275 :: u276 :: u277 :: u278 :: c279 :: c280 :: []), []⟩ W') :
    ∀ K : Act → World → Prop, (∀ a w, Code.wp Try.prog (tellsTail 27) Q0 a w → K a w) → Code.wp Try.prog (tellsHead 27) (Exit.then K Q0) ⟨List.toArray (c0 :: c1 :: c2 :: c3 :: c4 :: c5 :: c6 :: c7 :: c8 :: c9 :: c10 :: c11 :: c12 :: c13 :: c14 :: (.pointer (some ⟨gc, 0, none⟩) : Value) :: (.pointer (some ⟨ga, 0, none⟩) : Value) :: c17 :: (.pointer (some ⟨gb, 0, none⟩) : Value) :: c19 :: c20 :: c21 :: c22 :: c23 :: c24 :: c25 :: c26 :: (.pointer (some ⟨gx, 0, none⟩) : Value) :: c28 :: c29 :: c30 :: c31 :: c32 :: c33 :: c34 :: c35 :: c36 :: c37 :: c38 :: c39 :: c40 :: c41 :: c42 :: c43 :: c44 :: c45 :: c46 :: c47 :: c48 :: c49 :: c50 :: c51 :: c52 :: c53 :: c54 :: c55 :: c56 :: c57 :: c58 :: c59 :: c60 :: c61 :: c62 :: c63 :: c64 :: c65 :: c66 :: c67 :: c68 :: c69 :: c70 :: c71 :: c72 :: c73 :: c74 :: c75 :: c76 :: c77 :: c78 :: c79 :: c80 :: c81 :: c82 :: c83 :: c84 :: c85 :: c86 :: c87 :: c88 :: c89 :: c90 :: c91 :: c92 :: c93 :: c94 :: c95 :: c96 :: c97 :: c98 :: c99 :: c100 :: c101 :: c102 :: c103 :: c104 :: c105 :: c106 :: c107 :: c108 :: c109 :: c110 :: c111 :: c112 :: c113 :: c114 :: c115 :: c116 :: c117 :: c118 :: c119 :: c120 :: c121 :: c122 :: c123 :: c124 :: c125 :: c126 :: c127 :: c128 :: c129 :: c130 :: c131 :: c132 :: c133 :: c134 :: c135 :: c136 :: c137 :: c138 :: c139 :: c140 :: c141 :: c142 :: c143 :: c144 :: c145 :: c146 :: c147 :: c148 :: c149 :: c150 :: c151 :: c152 :: c153 :: c154 :: c155 :: c156 :: c157 :: c158 :: c159 :: c160 :: c161 :: c162 :: c163 :: c164 :: c165 :: c166 :: c167 :: c168 :: c169 :: c170 :: c171 :: c172 :: c173 :: c174 :: c175 :: c176 :: c177 :: c178 :: c179 :: c180 :: c181 :: c182 :: c183 :: c184 :: c185 :: c186 :: c187 :: c188 :: c189 :: c190 :: c191 :: c192 :: c193 :: c194 :: c195 :: c196 :: c197 :: c198 :: c199 :: c200 :: c201 :: c202 :: c203 :: c204 :: c205 :: c206 :: c207 :: c208 :: c209 :: c210 :: c211 :: c212 :: c213 :: c214 :: c215 :: c216 :: c217 :: c218 :: c219 :: c220 :: c221 :: c222 :: c223 :: c224 :: c225 :: c226 :: c227 :: c228 :: c229 :: c230 :: c231 :: c232 :: c233 :: c234 :: c235 :: c236 :: c237 :: c238 :: c239 :: c240 :: c241 :: c242 :: c243 :: c244 :: c245 :: c246 :: c247 :: c248 :: c249 :: c250 :: c251 :: c252 :: c253 :: c254 :: c255 :: c256 :: c257 :: c258 :: c259 :: c260 :: c261 :: c262 :: c263 :: c264 :: c265 :: c266 :: c267 :: c268 :: c269 :: c270 :: c271 :: c272 :: c273 :: c274 :: c275 :: c276 :: c277 :: c278 :: c279 :: c280 :: []), []⟩ W := by
  intro K hK
  have HC := Lib.hid hc
  have HSM := Lib.hid hsm
  have HU0 := Lib.hid hti
  have HEX := Lib.hid hnext
  clear hc hsm hti hnext
  rename World => wc
  conv at hK => enter [a, w, 1, 2]; whnf
  conv => arg 2; whnf
  obtain ⟨r, hr⟩ : ∃ r, r = planC x0 x1 x.1 x.2.1 x.2.2 := ⟨_, rfl⟩
  have HR := Lib.hid hr; clear hr
  have HRS := Lib.hid (show Bytes r.2 by rw [HR.out, ← planR_eq]; exact small_bytes HSM.out (planR_len _ _ _ _ _))
  obtain ⟨Ak1, ck1, Ak2, ck2, hgk, hck, hdk, hlk, hmk⟩ := HC.out.below HU0.out.1
  obtain ⟨k0, k1, k2, _, _, _, kl⟩ := three_cells hgk
  obtain ⟨x0c, x1c, _, _, xl⟩ := cells2 (HU0.out.2.2.2.2.2.2 (gx, .cells #[.int .i64 x0, .int .i64 x1] 39 (0, 0)) (by simp)).1
  have HCT := Lib.hid ((plan_calls x0 x1 x.1 Ak1 ck1 x.2.1 Ak2 ck2 x.2.2 wc hck hdk hlk hmk).mono (fun _ _ hz => (gotR_of hz : GotR (planC x0 x1 x.1 x.2.1 x.2.2) _ _ _)))
  rw [← HR.out] at HCT
  clear hgk hck hdk hlk hmk
  go_upto_region 27 with (fail)
  go_cut [17] from 148 to 278 (fun ve W => ve = .int .i64 r.1 ∧ Aside0 (TI wb ga gb r.2 rb [(gx, .cells #[.int .i64 x0, .int .i64 x1] 39 (0, 0)), (gX, .cells #[.int .i64 n, .int .i64 m, .int .i64 pd, .int .i64 (1 + pe), .int .i64 (1 + pa), .int .i64 (1 + pf)] 39 (0, 0))] W))
  case first =>
    go_wp2_with fail
    refine HCT.out.mono ?_
    rintro e W1 ⟨A3, c3, A4, c4, rfl, ho, hp, hb⟩
    have HTB := Lib.hid (HU0.out.below hb)
    obtain ⟨_, _, _, _, hgq, _⟩ := HTB.out.2.2.2.2.1
    obtain ⟨q0, q1, q2, q3, q4, q5, ql⟩ := three_cells hgq
    clear hgq
    go_wp2
    go_meet
    case rel => first | exact ⟨rfl, ⟨TI.setA HTB.out ho hp HU0.out.1.size HRS.out⟩⟩ | ((repeat apply Exists.intro); exact ⟨⟨rfl, ⟨TI.setA HTB.out ho hp HU0.out.1.size HRS.out⟩⟩, rfl⟩)
  clear HCT k0 k1 k2 kl x0c x1c xl HU0
  obtain ⟨rfl, HA1⟩ := hcut
  obtain ⟨Ak1, ck1, Ak2, ck2, hgk, hck, hdk, hlk, hmk⟩ := HC.out.below HA1.out.1
  obtain ⟨k0, k1, k2, _, _, _, kl⟩ := three_cells hgk
  obtain ⟨x0c, x1c, _, _, xl⟩ := cells2 (HA1.out.2.2.2.2.2.2 (gx, .cells #[.int .i64 x0, .int .i64 x1] 39 (0, 0)) (by simp)).1
  have HCT := Lib.hid ((planR_calls x0 x1 x.1 Ak1 ck1 x.2.1 Ak2 ck2 x.2.2 wc hck hdk hlk hmk).mono (fun _ _ hz => (gotR_of hz : GotR (planR x0 x1 x.1 x.2.1 x.2.2) _ _ _)))
  rw [planR_eq, ← HR.out] at HCT
  clear hgk hck hdk hlk hmk
  go_upto_region 28 with (fail)
  go_cut [19] from 148 to 278 (fun ve W => ve = .int .i64 r.1 ∧ Aside0 (TI wb ga gb r.2 r.2 [(gx, .cells #[.int .i64 x0, .int .i64 x1] 39 (0, 0)), (gX, .cells #[.int .i64 n, .int .i64 m, .int .i64 pd, .int .i64 (1 + pe), .int .i64 (1 + pa), .int .i64 (1 + pf)] 39 (0, 0))] W))
  case first =>
    go_wp2_with fail
    refine HCT.out.mono ?_
    rintro e W1 ⟨A3, c3, A4, c4, rfl, ho, hp, hb⟩
    have HTB := Lib.hid (HA1.out.below hb)
    obtain ⟨_, _, _, _, hgq, _⟩ := HTB.out.2.2.2.2.2.1
    obtain ⟨q0, q1, q2, q3, q4, q5, ql⟩ := three_cells hgq
    clear hgq
    go_wp2
    go_meet
    case rel => first | exact ⟨rfl, ⟨TI.setB HTB.out ho hp HA1.out.1.size HRS.out⟩⟩ | ((repeat apply Exists.intro); exact ⟨⟨rfl, ⟨TI.setB HTB.out ho hp HA1.out.1.size HRS.out⟩⟩, rfl⟩)
  clear HCT k0 k1 k2 kl x0c x1c xl HA1
  obtain ⟨rfl, HB1⟩ := hcut
  obtain ⟨Aj1, cj1, Aj2, cj2, hgj, hcj, hdj, hlj, hmj⟩ := HB1.out.2.2.2.2.1.holds
  obtain ⟨j0, j1, j2, _, _, _, jl⟩ := three_cells hgj
  obtain ⟨Al1, cl1, Al2, cl2, hgl, hcl, hdl, hll, hml⟩ := HB1.out.2.2.2.2.2.1.holds
  obtain ⟨l0, l1, l2, _, _, _, ll⟩ := three_cells hgl
  have HQ := Lib.hid (same_is (c1 := cj1) (c2 := cj2) (d1 := cl1) (d2 := cl2) (sameK_yes (rfl : r.2 = r.2)) hcj hdj hcl hdl)
  clear hgj hcj hdj hlj hmj hgl hcl hdl hll hml
  go_upto_region 29 with (fail)
  go_cut [231] from 148 to 278 (fun v W => v = .bool false ∧ Aside0 (TI wb ga gb r.2 r.2 [(gx, .cells #[.int .i64 x0, .int .i64 x1] 39 (0, 0)), (gX, .cells #[.int .i64 n, .int .i64 m, .int .i64 pd, .int .i64 (1 + pe), .int .i64 (1 + pa), .int .i64 (1 + pf)] 39 (0, 0))] W))
  case first =>
    go_wp2_with fail
    refine HQ.out.mono ?_
    rintro e W1 ⟨rfl, hb⟩
    go_wp2
    go_meet
    case rel => first | exact ⟨by first | rfl | simp, ⟨HB1.out.below hb⟩⟩ | ((repeat apply Exists.intro); exact ⟨⟨by first | rfl | simp, ⟨HB1.out.below hb⟩⟩, rfl⟩)
  clear HQ j0 j1 j2 jl l0 l1 l2 ll HB1
  obtain ⟨rfl, HU1⟩ := hcut
  clear HR HRS HC HSM
  go_upto_region 31 with (fail)
  refine HEX.out _ _ _ HU1.out _ _ _ _ _ _ _ _ _ _ _ _ _ _ _ _ _ _ _ _ _ _ _ _ _ _ _ _ _ _ _ _ _ _ _ _ _ _ _ _ _ _ _ _ _ _ _ _ _ _ _ _ _ _ _ _ _ _ _ _ _ _ _ _ _ _ _ _ _ _ _ _ _ _ _ _ _ _ _ _ _ _ _ _ _ _ _ _ _ _ _ _ _ _ _ _ _ _ _ _ _ _ _ _ _ _ _ _ _ _ _ _ _ _ _ _ _ _ _ _ _ _ _ _ _ _ _ _ _ _ _ _ _ _ ?_
  assumption
end Go.Proofs.Ytdbgpakmbjhmgaa.H
