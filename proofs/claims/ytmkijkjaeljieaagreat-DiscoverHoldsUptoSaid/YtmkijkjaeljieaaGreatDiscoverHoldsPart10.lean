/- Part 10 of the proof of DiscoverHolds: K23, FwYG, FwYH. Own lemmas; no conditions. -/
import Derived.Test.YtmkijkjaeljieaaGreatDiscoverHoldsPart9
set_option maxHeartbeats 1000000
set_option linter.unusedSimpArgs false
set_option linter.unusedVariables false
set_option linter.unnecessarySimpa false
set_option maxRecDepth 100000
namespace Go.Proofs.YtmkijkjaeljieaaGreat
open Tryz
open Go Go.FW
noncomputable def JU : Array Oper := KC f42 12
def Dt:List n5:=[⟨none,.mv 133 (.t 1)⟩,⟨none,.mv 134 (.t 5)⟩,⟨none,.idx 135 1 (.t 134) (.c (.int .i64 0))⟩,⟨none,.ld 136 1 false (.t 135)⟩,⟨none,.idx 137 2 (.t 133) (.t 136)⟩,⟨none,.ld 138 2 true (.t 137)⟩,⟨none,.mv 139 (.t 1)⟩,⟨none,.mv 140 (.t 5)⟩,⟨none,.idx 141 1 (.t 140) (.c (.int .i64 1))⟩,⟨none,.ld 142 1 false (.t 141)⟩,⟨none,.idx 143 2 (.t 139) (.t 142)⟩,⟨none,.ld 144 2 true (.t 143)⟩,⟨none,.mv 145 (.t 1)⟩,⟨none,.mv 146 (.t 5)⟩,⟨none,.idx 147 1 (.t 146) (.c (.int .i64 2))⟩,⟨none,.ld 148 1 false (.t 147)⟩,⟨none,.idx 149 2 (.t 145) (.t 148)⟩,⟨none,.ld 150 2 true (.t 149)⟩,⟨none,.alloc 6 2 98 (.agg [.ab,.ab])⟩,⟨none,.alloc 7 2 98 (.agg [.ab,.ab])⟩,⟨none,.alloc 8 2 98 (.agg [.ab,.ab])⟩,⟨none,.st 2 (.t 6) (.t 138)⟩,⟨none,.st 2 (.t 7) (.t 144)⟩,⟨none,.st 2 (.t 8) (.t 150)⟩]
def Ik:List (List Nat):=[[],[],[1],[2],[0,3],[4],[],[],[7],[8],[6,9],[10],[],[],[13],[14],[12,15],[16],[],[],[],[18,5,0,1,2,3,4,5,18,19,20],[19,11,21,0,1,2,3,4,5,6,7,8,9,10,11,18,19,20,21],[20,17,22,0,1,2,3,4,5,6,7,8,9,10,11,12,13,14,15,16,17,18,19,20,21,22]]
theorem afh:JU.toList.map (lQ Tryz.prog 390 true JU)=Dt.map some:=by kernel_rfl
theorem afi:JU.toList.map (fun o=>(o.after.toList.filter (Region.binds .any)).map (·.on))=Ik:=by kernel_rfl
noncomputable def JV : Array Oper := KC f42 15
def Du:List n5:=[⟨none,.mv 176 (.t 1)⟩,⟨none,.mv 177 (.t 5)⟩,⟨none,.idx 178 1 (.t 177) (.c (.int .i64 0))⟩,⟨none,.ld 179 1 false (.t 178)⟩,⟨none,.idx 180 2 (.t 176) (.t 179)⟩,⟨none,.ld 181 2 true (.t 180)⟩,⟨none,.mv 182 (.t 1)⟩,⟨none,.mv 183 (.t 5)⟩,⟨none,.idx 184 1 (.t 183) (.c (.int .i64 1))⟩,⟨none,.ld 185 1 false (.t 184)⟩,⟨none,.idx 186 2 (.t 182) (.t 185)⟩,⟨none,.ld 187 2 true (.t 186)⟩,⟨none,.mv 188 (.t 1)⟩,⟨none,.mv 189 (.t 5)⟩,⟨none,.idx 190 1 (.t 189) (.c (.int .i64 2))⟩,⟨none,.ld 191 1 false (.t 190)⟩,⟨none,.idx 192 2 (.t 188) (.t 191)⟩,⟨none,.ld 193 2 true (.t 192)⟩,⟨none,.mv 194 (.t 1)⟩,⟨none,.mv 195 (.t 5)⟩,⟨none,.idx 196 1 (.t 195) (.c (.int .i64 3))⟩,⟨none,.ld 197 1 false (.t 196)⟩,⟨none,.idx 198 2 (.t 194) (.t 197)⟩,⟨none,.ld 199 2 true (.t 198)⟩,⟨none,.alloc 9 2 98 (.agg [.ab,.ab])⟩,⟨none,.alloc 10 2 98 (.agg [.ab,.ab])⟩,⟨none,.alloc 11 2 98 (.agg [.ab,.ab])⟩,⟨none,.alloc 12 2 98 (.agg [.ab,.ab])⟩,⟨none,.st 2 (.t 9) (.t 181)⟩,⟨none,.st 2 (.t 10) (.t 187)⟩,⟨none,.st 2 (.t 11) (.t 193)⟩,⟨none,.st 2 (.t 12) (.t 199)⟩]
def Il:List (List Nat):=[[],[],[1],[2],[0,3],[4],[],[],[7],[8],[6,9],[10],[],[],[13],[14],[12,15],[16],[],[],[19],[20],[18,21],[22],[],[],[],[],[24,5,0,1,2,3,4,5,24,25,26,27],[25,11,28,0,1,2,3,4,5,6,7,8,9,10,11,24,25,26,27,28],[26,17,29,0,1,2,3,4,5,6,7,8,9,10,11,12,13,14,15,16,17,24,25,26,27,28,29],[27,23,30,0,1,2,3,4,5,6,7,8,9,10,11,12,13,14,15,16,17,18,19,20,21,22,23,24,25,26,27,28,29,30]]
theorem afj:JV.toList.map (lQ Tryz.prog 390 true JV)=Du.map some:=by kernel_rfl
theorem afK:JV.toList.map (fun o=>(o.after.toList.filter (Region.binds .any)).map (·.on))=Il:=by kernel_rfl
noncomputable def JW : Array Oper := KC f42 18
def Ko:List n5:=[⟨none,.mv 224 (.t 1)⟩,⟨none,.mv 225 (.t 5)⟩,⟨none,.idx 226 1 (.t 225) (.c (.int .i64 0))⟩,⟨none,.ld 227 1 false (.t 226)⟩,⟨none,.idx 228 2 (.t 224) (.t 227)⟩,⟨none,.ld 229 2 true (.t 228)⟩,⟨none,.mv 230 (.t 1)⟩,⟨none,.mv 231 (.t 5)⟩,⟨none,.idx 232 1 (.t 231) (.c (.int .i64 1))⟩,⟨none,.ld 233 1 false (.t 232)⟩,⟨none,.idx 234 2 (.t 230) (.t 233)⟩,⟨none,.ld 235 2 true (.t 234)⟩,⟨none,.mv 236 (.t 1)⟩,⟨none,.mv 237 (.t 5)⟩,⟨none,.idx 238 1 (.t 237) (.c (.int .i64 2))⟩,⟨none,.ld 239 1 false (.t 238)⟩,⟨none,.idx 240 2 (.t 236) (.t 239)⟩,⟨none,.ld 241 2 true (.t 240)⟩,⟨none,.mv 242 (.t 1)⟩,⟨none,.mv 243 (.t 5)⟩,⟨none,.idx 244 1 (.t 243) (.c (.int .i64 3))⟩,⟨none,.ld 245 1 false (.t 244)⟩,⟨none,.idx 246 2 (.t 242) (.t 245)⟩,⟨none,.ld 247 2 true (.t 246)⟩,⟨none,.call (some 248) true (.c (.fn 40 [] [])) [(.t 229),(.t 235),(.t 241),(.t 247)]⟩,⟨none,.mv 249 (.t 1)⟩,⟨none,.mv 250 (.t 5)⟩,⟨none,.idx 251 1 (.t 250) (.c (.int .i64 0))⟩,⟨none,.ld 252 1 false (.t 251)⟩,⟨none,.idx 253 2 (.t 249) (.t 252)⟩,⟨none,.ld 254 2 true (.t 253)⟩,⟨none,.mv 255 (.t 1)⟩,⟨none,.mv 256 (.t 5)⟩,⟨none,.idx 257 1 (.t 256) (.c (.int .i64 1))⟩,⟨none,.ld 258 1 false (.t 257)⟩,⟨none,.idx 259 2 (.t 255) (.t 258)⟩,⟨none,.ld 260 2 true (.t 259)⟩,⟨none,.mv 261 (.t 1)⟩,⟨none,.mv 262 (.t 5)⟩,⟨none,.idx 263 1 (.t 262) (.c (.int .i64 2))⟩,⟨none,.ld 264 1 false (.t 263)⟩,⟨none,.idx 265 2 (.t 261) (.t 264)⟩,⟨none,.ld 266 2 true (.t 265)⟩,⟨none,.mv 267 (.t 1)⟩,⟨none,.mv 268 (.t 5)⟩,⟨none,.idx 269 1 (.t 268) (.c (.int .i64 3))⟩,⟨none,.ld 270 1 false (.t 269)⟩,⟨none,.idx 271 2 (.t 267) (.t 270)⟩,⟨none,.ld 272 2 true (.t 271)⟩,⟨none,.call (some 273) true (.c (.fn 74 [] [])) [(.t 254),(.t 260),(.t 266),(.t 272)]⟩,⟨none,.mv 274 (.t 1)⟩,⟨none,.mv 275 (.t 5)⟩,⟨none,.idx 276 1 (.t 275) (.c (.int .i64 4))⟩,⟨none,.ld 277 1 false (.t 276)⟩,⟨none,.idx 278 2 (.t 274) (.t 277)⟩,⟨none,.ld 279 2 true (.t 278)⟩,⟨none,.mv 280 (.t 1)⟩,⟨none,.mv 281 (.t 5)⟩,⟨none,.idx 282 1 (.t 281) (.c (.int .i64 5))⟩,⟨none,.ld 283 1 false (.t 282)⟩,⟨none,.idx 284 2 (.t 280) (.t 283)⟩,⟨none,.ld 285 2 true (.t 284)⟩,⟨none,.mv 286 (.t 1)⟩,⟨none,.mv 287 (.t 5)⟩,⟨none,.idx 288 1 (.t 287) (.c (.int .i64 6))⟩,⟨none,.ld 289 1 false (.t 288)⟩,⟨none,.idx 290 2 (.t 286) (.t 289)⟩,⟨none,.ld 291 2 true (.t 290)⟩,⟨none,.mv 292 (.t 1)⟩,⟨none,.mv 293 (.t 5)⟩,⟨none,.idx 294 1 (.t 293) (.c (.int .i64 7))⟩,⟨none,.ld 295 1 false (.t 294)⟩,⟨none,.idx 296 2 (.t 292) (.t 295)⟩,⟨none,.ld 297 2 true (.t 296)⟩,⟨none,.call (some 298) true (.c (.fn 40 [] [])) [(.t 279),(.t 285),(.t 291),(.t 297)]⟩,⟨none,.mv 299 (.t 1)⟩,⟨none,.mv 300 (.t 5)⟩,⟨none,.idx 301 1 (.t 300) (.c (.int .i64 4))⟩,⟨none,.ld 302 1 false (.t 301)⟩,⟨none,.idx 303 2 (.t 299) (.t 302)⟩,⟨none,.ld 304 2 true (.t 303)⟩,⟨none,.mv 305 (.t 1)⟩,⟨none,.mv 306 (.t 5)⟩,⟨none,.idx 307 1 (.t 306) (.c (.int .i64 5))⟩,⟨none,.ld 308 1 false (.t 307)⟩,⟨none,.idx 309 2 (.t 305) (.t 308)⟩,⟨none,.ld 310 2 true (.t 309)⟩,⟨none,.mv 311 (.t 1)⟩,⟨none,.mv 312 (.t 5)⟩,⟨none,.idx 313 1 (.t 312) (.c (.int .i64 6))⟩,⟨none,.ld 314 1 false (.t 313)⟩,⟨none,.idx 315 2 (.t 311) (.t 314)⟩,⟨none,.ld 316 2 true (.t 315)⟩,⟨none,.mv 317 (.t 1)⟩,⟨none,.mv 318 (.t 5)⟩,⟨none,.idx 319 1 (.t 318) (.c (.int .i64 7))⟩,⟨none,.ld 320 1 false (.t 319)⟩,⟨none,.idx 321 2 (.t 317) (.t 320)⟩,⟨none,.ld 322 2 true (.t 321)⟩,⟨none,.call (some 323) true (.c (.fn 74 [] [])) [(.t 304),(.t 310),(.t 316),(.t 322)]⟩,⟨none,.call (some 324) true (.c (.fn 80 [] [])) [(.t 248),(.t 273),(.t 298),(.t 323)]⟩,⟨none,.bs 325 1 61 [(.t 324)]⟩,⟨none,.mv 4 (.t 325)⟩]
def Im:List (List Nat):=[[],[],[1],[2],[0,3],[4],[],[],[7],[8],[6,9],[10],[],[],[13],[14],[12,15],[16],[],[],[19],[20],[18,21],[22],[5,11,17,23],[],[],[26],[27],[25,28],[29],[],[],[32],[33],[31,34],[35],[],[],[38],[39],[37,40],[41],[],[],[44],[45],[43,46],[47],[30,36,42,48,24],[],[],[51],[52],[50,53],[54],[],[],[57],[58],[56,59],[60],[],[],[63],[64],[62,65],[66],[],[],[69],[70],[68,71],[72],[55,61,67,73,49],[],[],[76],[77],[75,78],[79],[],[],[82],[83],[81,84],[85],[],[],[88],[89],[87,90],[91],[],[],[94],[95],[93,96],[97],[80,86,92,98,74],[24,49,74,99,99],[100],[101,100,0,1,2,3,4,5,6,7,8,9,10,11,12,13,14,15,16,17,18,19,20,21,22,23,24,25,26,27,28,29,30,31,32,33,34,35,36,37,38,39,40,41,42,43,44,45,46,47,48,49,50,51,52,53,54,55,56,57,58,59,60,61,62,63,64,65,66,67,68,69,70,71,72,73,74,75,76,77,78,79,80,81,82,83,84,85,86,87,88,89,90,91,92,93,94,95,96,97,98,99,100,101]]
theorem afL:JW.toList.map (lQ Tryz.prog 390 true JW)=Ko.map some:=by kernel_rfl
theorem afM:JW.toList.map (fun o=>(o.after.toList.filter (Region.binds .any)).map (·.on))=Im:=by kernel_rfl
noncomputable def IC : az := ⟨390, [.t 4], .seq (.rg (.o none (.box 2 5 59 (.t 0)) <| .o none (.mv 4 (.c .ab)) .nil)) <| .seq (.rg (.o none (.bG 13 1 (.t 2)) <| .o none (.ld 14 1 false (.t 13)) <| .o none (.mv 5 (.t 14)) .nil)) <| .seq (.seq (.rg (.o none (.bG 15 0 (.t 2)) <| .o none (.ld 16 1 false (.t 15)) .nil)) <| .block 0 (.seq (.rg (.o none (.bin 18 .eql false (.t 16) (.c (.int .i64 1))) <| .o none (.mv 17 (.t 18)) .nil)) <| .cond (.t 17) (.seq (.rg (.o none (.mv 19 (.t 1)) <| .o none (.mv 20 (.t 5)) <| .o none (.idx 21 1 (.t 20) (.c (.int .i64 0))) <| .o none (.ld 22 1 false (.t 21)) <| .o none (.idx 23 2 (.t 19) (.t 22)) <| .o none (.ld 24 2 true (.t 23)) <| .o none (.mv 25 (.t 1)) <| .o none (.mv 26 (.t 5)) <| .o none (.idx 27 1 (.t 26) (.c (.int .i64 1))) <| .o none (.ld 28 1 false (.t 27)) <| .o none (.idx 29 2 (.t 25) (.t 28)) <| .o none (.ld 30 2 true (.t 29)) <| .o none (.mv 31 (.t 1)) <| .o none (.mv 32 (.t 5)) <| .o none (.idx 33 1 (.t 32) (.c (.int .i64 0))) <| .o none (.ld 34 1 false (.t 33)) <| .o none (.idx 35 2 (.t 31) (.t 34)) <| .o none (.ld 36 2 true (.t 35)) <| .o none (.mv 37 (.t 1)) <| .o none (.mv 38 (.t 5)) <| .o none (.idx 39 1 (.t 38) (.c (.int .i64 2))) <| .o none (.ld 40 1 false (.t 39)) <| .o none (.idx 41 2 (.t 37) (.t 40)) <| .o none (.ld 42 2 true (.t 41)) <| .o none (.call (some 43) false (.c (.fn 40 [] [])) [(.t 24), (.t 30), (.t 36), (.t 42)]) <| .o none (.bs 44 1 61 [(.t 43)]) <| .o none (.mv 4 (.t 44)) .nil)) <| .ret) (.seq (.rg (.o none (.bin 46 .eql false (.t 16) (.c (.int .i64 2))) <| .o none (.mv 45 (.t 46)) .nil)) <| .cond (.t 45) (.seq (.rg (.o none (.mv 47 (.t 1)) <| .o none (.mv 48 (.t 5)) <| .o none (.idx 49 1 (.t 48) (.c (.int .i64 0))) <| .o none (.ld 50 1 false (.t 49)) <| .o none (.idx 51 2 (.t 47) (.t 50)) <| .o none (.ld 52 2 true (.t 51)) <| .o none (.mv 53 (.t 1)) <| .o none (.mv 54 (.t 5)) <| .o none (.idx 55 1 (.t 54) (.c (.int .i64 1))) <| .o none (.ld 56 1 false (.t 55)) <| .o none (.idx 57 2 (.t 53) (.t 56)) <| .o none (.ld 58 2 true (.t 57)) <| .o none (.mv 59 (.t 1)) <| .o none (.mv 60 (.t 5)) <| .o none (.idx 61 1 (.t 60) (.c (.int .i64 2))) <| .o none (.ld 62 1 false (.t 61)) <| .o none (.idx 63 2 (.t 59) (.t 62)) <| .o none (.ld 64 2 true (.t 63)) <| .o none (.mv 65 (.t 1)) <| .o none (.mv 66 (.t 5)) <| .o none (.idx 67 1 (.t 66) (.c (.int .i64 3))) <| .o none (.ld 68 1 false (.t 67)) <| .o none (.idx 69 2 (.t 65) (.t 68)) <| .o none (.ld 70 2 true (.t 69)) <| .o none (.call (some 71) false (.c (.fn 40 [] [])) [(.t 52), (.t 58), (.t 64), (.t 70)]) <| .o none (.bs 72 1 61 [(.t 71)]) <| .o none (.mv 4 (.t 72)) .nil)) <| .ret) (.seq (.rg (.o none (.bin 74 .eql false (.t 16) (.c (.int .i64 3))) <| .o none (.mv 73 (.t 74)) .nil)) <| .cond (.t 73) (.seq (.rg (.o none (.mv 75 (.t 1)) <| .o none (.mv 76 (.t 5)) <| .o none (.idx 77 1 (.t 76) (.c (.int .i64 0))) <| .o none (.ld 78 1 false (.t 77)) <| .o none (.idx 79 2 (.t 75) (.t 78)) <| .o none (.ld 80 2 true (.t 79)) <| .o none (.mv 81 (.t 1)) <| .o none (.mv 82 (.t 5)) <| .o none (.idx 83 1 (.t 82) (.c (.int .i64 1))) <| .o none (.ld 84 1 false (.t 83)) <| .o none (.idx 85 2 (.t 81) (.t 84)) <| .o none (.ld 86 2 true (.t 85)) <| .o none (.mv 87 (.t 1)) <| .o none (.mv 88 (.t 5)) <| .o none (.idx 89 1 (.t 88) (.c (.int .i64 2))) <| .o none (.ld 90 1 false (.t 89)) <| .o none (.idx 91 2 (.t 87) (.t 90)) <| .o none (.ld 92 2 true (.t 91)) <| .o none (.mv 93 (.t 1)) <| .o none (.mv 94 (.t 5)) <| .o none (.idx 95 1 (.t 94) (.c (.int .i64 3))) <| .o none (.ld 96 1 false (.t 95)) <| .o none (.idx 97 2 (.t 93) (.t 96)) <| .o none (.ld 98 2 true (.t 97)) <| .o none (.call (some 99) false (.c (.fn 74 [] [])) [(.t 80), (.t 86), (.t 92), (.t 98)]) <| .o none (.bs 100 1 61 [(.t 99)]) <| .o none (.mv 4 (.t 100)) .nil)) <| .ret) (.seq (.rg (.o none (.bin 102 .eql false (.t 16) (.c (.int .i64 4))) <| .o none (.mv 101 (.t 102)) .nil)) <| .cond (.t 101) (.seq (.rg (.o none (.mv 103 (.t 1)) <| .o none (.mv 104 (.t 5)) <| .o none (.idx 105 1 (.t 104) (.c (.int .i64 0))) <| .o none (.ld 106 1 false (.t 105)) <| .o none (.idx 107 2 (.t 103) (.t 106)) <| .o none (.ld 108 2 true (.t 107)) <| .o none (.mv 109 (.t 1)) <| .o none (.mv 110 (.t 5)) <| .o none (.idx 111 1 (.t 110) (.c (.int .i64 1))) <| .o none (.ld 112 1 false (.t 111)) <| .o none (.idx 113 2 (.t 109) (.t 112)) <| .o none (.ld 114 2 true (.t 113)) <| .o none (.mv 116 (.t 1)) <| .o none (.mv 117 (.t 5)) <| .o none (.idx 118 1 (.t 117) (.c (.int .i64 2))) <| .o none (.ld 119 1 false (.t 118)) <| .o none (.idx 120 2 (.t 116) (.t 119)) <| .o none (.ld 121 2 true (.t 120)) <| .o none (.mv 122 (.t 1)) <| .o none (.mv 123 (.t 5)) <| .o none (.idx 124 1 (.t 123) (.c (.int .i64 3))) <| .o none (.ld 125 1 false (.t 124)) <| .o none (.idx 126 2 (.t 122) (.t 125)) <| .o none (.ld 127 2 true (.t 126)) <| .o none (.call (some 115) true (.c (.fn 39 [] [])) [(.t 108), (.t 114)]) <| .o none (.call (some 128) true (.c (.fn 39 [] [])) [(.t 121), (.t 127)]) <| .o none (.call (some 129) true (.c (.fn 50 [] [])) [(.t 115), (.t 128)]) <| .o none (.bs 130 1 61 [(.t 129)]) <| .o none (.mv 4 (.t 130)) .nil)) <| .ret) (.seq (.rg (.o none (.bin 132 .eql false (.t 16) (.c (.int .i64 5))) <| .o none (.mv 131 (.t 132)) .nil)) <| .cond (.t 131) (.seq (.raw 12 JU) <| .seq (.rg (.o none (.bG 151 0 (.t 7)) <| .o none (.ld 152 1 false (.t 151)) <| .o none (.bG 153 0 (.t 8)) <| .o none (.ld 154 1 false (.t 153)) <| .o none (.bG 156 0 (.t 6)) <| .o none (.ld 157 1 false (.t 156)) <| .o none (.bG 158 0 (.t 6)) <| .o none (.ld 159 1 false (.t 158)) <| .o none (.bG 162 1 (.t 7)) <| .o none (.ld 163 1 false (.t 162)) <| .o none (.bG 164 1 (.t 8)) <| .o none (.ld 165 1 false (.t 164)) <| .o none (.bG 167 1 (.t 6)) <| .o none (.ld 168 1 false (.t 167)) <| .o none (.bG 169 1 (.t 6)) <| .o none (.ld 170 1 false (.t 169)) <| .o none (.call (some 155) true (.c (.fn 78 [] [])) [(.t 152), (.t 154)]) <| .o none (.call (some 160) true (.c (.fn 78 [] [])) [(.t 157), (.t 159)]) <| .o none (.call (some 161) true (.c (.fn 50 [] [])) [(.t 155), (.t 160)]) <| .o none (.call (some 166) true (.c (.fn 78 [] [])) [(.t 163), (.t 165)]) <| .o none (.call (some 171) true (.c (.fn 78 [] [])) [(.t 168), (.t 170)]) <| .o none (.call (some 172) true (.c (.fn 50 [] [])) [(.t 166), (.t 171)]) <| .o none (.bs 173 1 61 [(.t 161), (.t 172)]) <| .o none (.mv 4 (.t 173)) .nil)) <| .ret) (.seq (.rg (.o none (.bin 175 .eql false (.t 16) (.c (.int .i64 6))) <| .o none (.mv 174 (.t 175)) .nil)) <| .cond (.t 174) (.seq (.raw 15 JV) <| .seq (.rg (.o none (.ld 200 2 true (.t 10)) <| .o none (.ld 201 2 true (.t 9)) <| .o none (.ld 202 2 true (.t 10)) <| .o none (.ld 203 2 true (.t 11)) <| .o none (.ld 205 2 true (.t 10)) <| .o none (.ld 206 2 true (.t 9)) <| .o none (.ld 207 2 true (.t 10)) <| .o none (.ld 208 2 true (.t 11)) <| .o none (.ld 210 2 true (.t 12)) <| .o none (.ld 211 2 true (.t 9)) <| .o none (.ld 212 2 true (.t 12)) <| .o none (.ld 213 2 true (.t 11)) <| .o none (.ld 215 2 true (.t 12)) <| .o none (.ld 216 2 true (.t 9)) <| .o none (.ld 217 2 true (.t 12)) <| .o none (.ld 218 2 true (.t 11)) <| .o none (.call (some 204) true (.c (.fn 40 [] [])) [(.t 200), (.t 201), (.t 202), (.t 203)]) <| .o none (.call (some 209) true (.c (.fn 74 [] [])) [(.t 205), (.t 206), (.t 207), (.t 208)]) <| .o none (.call (some 214) true (.c (.fn 40 [] [])) [(.t 210), (.t 211), (.t 212), (.t 213)]) <| .o none (.call (some 219) true (.c (.fn 74 [] [])) [(.t 215), (.t 216), (.t 217), (.t 218)]) <| .o none (.call (some 220) true (.c (.fn 80 [] [])) [(.t 204), (.t 209), (.t 214), (.t 219)]) <| .o none (.bs 221 1 61 [(.t 220)]) <| .o none (.mv 4 (.t 221)) .nil)) <| .ret) (.seq (.rg (.o none (.bin 223 .eql false (.t 16) (.c (.int .i64 7))) <| .o none (.mv 222 (.t 223)) .nil)) <| .cond (.t 222) (.seq (.raw 18 JW) <| .ret) (.seq (.rg (.o none (.bin 327 .eql false (.t 16) (.c (.int .i64 8))) <| .o none (.mv 326 (.t 327)) .nil)) <| .cond (.t 326) (.seq (.rg (.o none (.mv 328 (.t 1)) <| .o none (.mv 329 (.t 5)) <| .o none (.idx 330 1 (.t 329) (.c (.int .i64 0))) <| .o none (.ld 331 1 false (.t 330)) <| .o none (.idx 332 2 (.t 328) (.t 331)) <| .o none (.bG 333 0 (.t 332)) <| .o none (.ld 334 1 false (.t 333)) <| .o none (.mv 335 (.t 1)) <| .o none (.mv 336 (.t 5)) <| .o none (.idx 337 1 (.t 336) (.c (.int .i64 1))) <| .o none (.ld 338 1 false (.t 337)) <| .o none (.idx 339 2 (.t 335) (.t 338)) <| .o none (.bG 340 0 (.t 339)) <| .o none (.ld 341 1 false (.t 340)) <| .o none (.mv 343 (.t 1)) <| .o none (.mv 344 (.t 5)) <| .o none (.idx 345 1 (.t 344) (.c (.int .i64 0))) <| .o none (.ld 346 1 false (.t 345)) <| .o none (.idx 347 2 (.t 343) (.t 346)) <| .o none (.bG 348 1 (.t 347)) <| .o none (.ld 349 1 false (.t 348)) <| .o none (.mv 350 (.t 1)) <| .o none (.mv 351 (.t 5)) <| .o none (.idx 352 1 (.t 351) (.c (.int .i64 1))) <| .o none (.ld 353 1 false (.t 352)) <| .o none (.idx 354 2 (.t 350) (.t 353)) <| .o none (.bG 355 1 (.t 354)) <| .o none (.ld 356 1 false (.t 355)) <| .o none (.call (some 342) true (.c (.fn 50 [] [])) [(.t 334), (.t 341)]) <| .o none (.call (some 357) true (.c (.fn 50 [] [])) [(.t 349), (.t 356)]) <| .o none (.bs 358 1 61 [(.t 342), (.t 357)]) <| .o none (.mv 4 (.t 358)) .nil)) <| .ret) (.skip)))))))))) <| .seq (.rg (.o none (.mv 359 (.t 1)) <| .o none (.mv 360 (.t 5)) <| .o none (.idx 361 1 (.t 360) (.c (.int .i64 0))) <| .o none (.ld 362 1 false (.t 361)) <| .o none (.idx 363 2 (.t 359) (.t 362)) <| .o none (.ld 364 2 true (.t 363)) <| .o none (.mv 365 (.t 1)) <| .o none (.mv 366 (.t 5)) <| .o none (.idx 367 1 (.t 366) (.c (.int .i64 1))) <| .o none (.ld 368 1 false (.t 367)) <| .o none (.idx 369 2 (.t 365) (.t 368)) <| .o none (.ld 370 2 true (.t 369)) <| .o none (.mv 372 (.t 1)) <| .o none (.mv 373 (.t 5)) <| .o none (.idx 374 1 (.t 373) (.c (.int .i64 2))) <| .o none (.ld 375 1 false (.t 374)) <| .o none (.idx 376 2 (.t 372) (.t 375)) <| .o none (.ld 377 2 true (.t 376)) <| .o none (.mv 378 (.t 1)) <| .o none (.mv 379 (.t 5)) <| .o none (.idx 380 1 (.t 379) (.c (.int .i64 3))) <| .o none (.ld 381 1 false (.t 380)) <| .o none (.idx 382 2 (.t 378) (.t 381)) <| .o none (.ld 383 2 true (.t 382)) <| .o none (.bG 385 2 (.t 2)) <| .o none (.ld 386 3 true (.t 385)) <| .o none (.call (some 371) true (.c (.fn 39 [] [])) [(.t 364), (.t 370)]) <| .o none (.call (some 384) true (.c (.fn 39 [] [])) [(.t 377), (.t 383)]) <| .o none (.call (some 387) true (.c (.fn 81 [] [])) [(.t 384), (.t 386)]) <| .o none (.call (some 388) true (.c (.fn 50 [] [])) [(.t 371), (.t 387)]) <| .o none (.bs 389 1 61 [(.t 388)]) <| .o none (.mv 4 (.t 389)) .nil)) <| .ret⟩
theorem uT:Qd Tryz.prog f42=some IC:=by kernel_rfl
end Go.Proofs.YtmkijkjaeljieaaGreat
namespace Go.FW
open Go
variable {C : Ctx} {fr : Fr} {hp : HP}
abbrev WT:=List (Nat×Nat×PV)
abbrev WB:=List (Nat×Nat×Nat×HB×HB)
structure cm(Z:List (Nat×PV))(T:WT)(B:WB)(l:Nat->Bool)(fr:Fr)(hp:HP):Prop where
 z:∀e∈Z,fr e.1=e.2
 t:∀e∈T,l e.2.1=true->fr e.1=e.2.2
 a:∀e∈B,l e.2.1=true->l e.2.2.1=false->hp e.1=some e.2.2.2.1
 s:∀e∈B,l e.2.2.1=true->hp e.1=some e.2.2.2.2
variable {Z : List (Nat × PV)} {T : WT} {B : WB} {l : Nat -> Bool}
theorem cm.at0(h:cm Z T B l fr hp){s:Nat}{v:PV}(hf:Z.find? (fun e=>e.1==s)=some (s,v)):fr s=v:=h.z (s,v) (List.mem_of_find?_eq_some hf)
theorem cm.at(h:cm Z T B l fr hp){s i:Nat}{v:PV}(hf:T.find? (fun e=>e.1==s)=some (s,i,v))(hl:l i=true):fr s=v:=h.t (s,i,v) (List.mem_of_find?_eq_some hf) hl
theorem qE{i j:Nat}(h:(j==i||l j)=true)(hn:j≠i):l j=true:=by
 rcases KbE _ _▸h with h|h
 ·exact absurd (by simpa using h) hn
 ·exact h
theorem wC{α:Type}{p:α->Bool}{L:List α}{x e:α}(h:L.filter p=[x])(he:e∈L)(hp:p e=true):e=x:=by have:e∈L.filter p:=Kcu.2 ⟨he,hp⟩;rw[h]at this;exact Kay.1 this
theorem cm.slot(h:cm Z T B l fr hp){d i:Nat}{v:PV}(c1:T.filter (fun e=>e.2.1==i)=[(d,i,v)])(c2:T.all (fun e=>e.2.1==i||e.1 !=d)=true)(c3:Z.all (fun e=>e.1 !=d)=true)(c4:B.all (fun e=>e.2.1 !=i&&e.2.2.1 !=i)=true):cm Z T B (fun k=>k==i||l k) (ae fr d v) hp:=by
 have k4:∀e∈B,e.2.1≠i/\e.2.2.1≠i:=fun e he=>by simpa using Kav.1 c4 e he
 refine⟨fun e he=>?_,fun e he hl=>?_,fun e he h1 h2=>?_,fun e he h1=>?_⟩
 ·have:e.1≠d:=by simpa using Kav.1 c3 e he
  simp[ae,this,h.z e he]
 ·by_cases hi:e.2.1=i
  ·have:=wC c1 he (by simpa using hi);subst this;simp[ae]
  ·have k2:=Kav.1 c2 e he;have:e.1≠d:=by simpa[hi]using k2
   simp[ae,this,h.t e he (qE hl hi)]
 ·exact h.a e he (qE h1 (k4 e he).1) (by simp at h2;exact h2.2)
 ·exact h.s e he (qE h1 (k4 e he).2)
theorem HJ{O:Nat}{p:PV}(h:p.refs.contains O=false):bU O p=p:=by unfold bU;rw[if_neg];rw[h];exact KcQ
theorem cm.box(h:cm Z T B l fr hp){d i st:Nat}{E F:HB}(c1:T.filter (fun e=>e.2.1==i)=[(d,i,.mp d 0 0)])(c2:T.all (fun e=>e.2.1==i||e.1 !=d&& !(e.2.2.refs.contains d))=true)(c3:Z.all (fun e=>e.1 !=d&& !(e.2.refs.contains d))=true)
  (c4:B.filter (fun e=>e.2.1==i)=[(d,i,st,E,F)]) (c5:B.all (fun e=>e.2.2.1 !=i&&(e.2.1==i||e.1 !=d))=true) (bq:l st=false):cm Z T B (fun k=>k==i||l k) (ae (bZ d fr) d (.mp d 0 0)) (Qj hp d E):=by
 have k5:∀e∈B,e.2.2.1≠i/\(e.2.1=i∨e.1≠d):=fun e he=>by simpa using Kav.1 c5 e he
 refine⟨fun e he=>?_,fun e he hl=>?_,fun e he h1 h2=>?_,fun e he h1=>?_⟩
 ·have k3:e.1≠d/\e.2.refs.contains d=false:=by have:=Kav.1 c3 e he;rw[Ka2]at this;exact⟨by simpa using this.1,by simpa using this.2⟩
  have:ae (bZ d fr) d (.mp d 0 0) e.1=bU d (fr e.1):=by simp[ae,k3.1,bZ]
  rw[this,h.z e he,HJ k3.2]
 ·by_cases hi:e.2.1=i
  ·have:=wC c1 he (by simpa using hi);subst this;simp[ae]
  ·have k2:=Kav.1 c2 e he;have zE:e.1≠d/\e.2.2.refs.contains d=false:=by
    rw[KbE]at k2;rcases k2 with k2|k2
    ·exact absurd (by simpa using k2) hi
    ·rw[Ka2]at k2;exact⟨by simpa using k2.1,by simpa using k2.2⟩
   have:ae (bZ d fr) d (.mp d 0 0) e.1=bU d (fr e.1):=by simp[ae,zE.1,bZ]
   rw[this,h.t e he (qE hl hi),HJ zE.2]
 ·by_cases hi:e.2.1=i
  ·have:=wC c4 he (by simpa using hi);subst this;simp[Qj]
  ·have hd:e.1≠d:=(k5 e he).2.resolve_left hi;have:=h.a e he (qE h1 hi) (by simp at h2;exact h2.2);simp[Qj,hd,this]
 ·have gJ:=qE h1 (k5 e he).1;by_cases hi:e.2.1=i
  ·have:=wC c4 he (by simpa using hi);subst this;simp only at gJ;rw[bq]at gJ;cases gJ
  ·have hd:e.1≠d:=(k5 e he).2.resolve_left hi;have:=h.s e he gJ;simp[Qj,hd,this]
theorem cm.store(h:cm Z T B l fr hp){O i al:Nat}{E F:HB}(c1:T.all (fun e=>e.2.1 !=i)=true)(c2:B.filter (fun e=>e.2.2.1==i)=[(O,al,i,E,F)])(c3:B.all (fun e=>e.2.1 !=i&&(e.2.2.1==i||e.1 !=O))=true):cm Z T B (fun k=>k==i||l k) fr (Qj hp O F):=by
 have k3:∀e∈B,e.2.1≠i/\(e.2.2.1=i∨e.1≠O):=fun e he=>by simpa using Kav.1 c3 e he
 refine⟨fun e he=>h.z e he,fun e he hl=>?_,fun e he h1 h2=>?_,fun e he h1=>?_⟩
 ·exact h.t e he (qE hl (by simpa using Kav.1 c1 e he))
 ·have hi:e.2.2.1≠i:=fun hi=>by simp[hi]at h2
  have hd:e.1≠O:=(k3 e he).2.resolve_left hi;have:=h.a e he (qE h1 (k3 e he).1) (by simp at h2;exact h2.2);simp[Qj,hd,this]
 ·by_cases hi:e.2.2.1=i
  ·have:=wC c2 he (by simpa using hi);subst this;simp[Qj]
  ·have hd:e.1≠O:=(k3 e he).2.resolve_left hi;have:=h.s e he (qE h1 hi);simp[Qj,hd,this]
def KI(Z:List (Nat×PV))(T:WT)(B:WB)(l:Nat->Bool)(i:Nat):Qg:=fun fr hp=>∃aO aA,Wk fr hp aO aA/\cm Z T B (fun k=>k==i||l k) aO aA
theorem cm.op(h:cm Z T B l fr hp){o:cI}{d i:Nat}{v:PV}(hv:∀K,bA C o fr hp K=K (ae fr d v) hp)(c1:T.filter (fun e=>e.2.1==i)=[(d,i,v)])(c2:T.all (fun e=>e.2.1==i||e.1 !=d)=true)(c3:Z.all (fun e=>e.1 !=d)=true)(c4:B.all (fun e=>e.2.1 !=i&&e.2.2.1 !=i)=true):fl C none o fr hp (KI Z T B l i):=by show bA C o fr hp _;rw[hv];exact⟨_,_,Wk.refl _ _,h.slot c1 c2 c3 c4⟩
theorem cm.alloc(h:cm Z T B l fr hp){d i st n ty:Nat}{cs:List PV}{F:HB}(hz:(PV.agg cs).cells.length=n/\0<n)(c1:T.filter (fun e=>e.2.1==i)=[(d,i,.mp d 0 0)])(c2:T.all (fun e=>e.2.1==i||e.1 !=d&& !(e.2.2.refs.contains d))=true)(c3:Z.all (fun e=>e.1 !=d&& !(e.2.refs.contains d))=true)
  (c4:B.filter (fun e=>e.2.1==i)=[(d,i,st,⟨n,ty,[.agg cs],false⟩,F)]) (c5:B.all (fun e=>e.2.2.1 !=i&&(e.2.1==i||e.1 !=d))=true) (bq:l st=false):fl C none (.alloc d n ty (.agg cs)) fr hp (KI Z T B l i):=by
 show fQ n ty (.agg cs) d fr hp _;unfold fQ;refine⟨rfl,hz.1,hz.2,_,_,Wk.refl _ _,?_⟩;rw[show(PV.agg cs).refs=[]from rfl,Cv];exact h.box c1 c2 c3 c4 c5 bq
theorem cm.st(h:cm Z T B l fr hp){O a i al n ty:Nat}{z:PV}{cs:List PV}(hb:fr O= .mp O 0 0)(ha:fr a= .agg cs)(hn:(PV.agg cs).cells.length=n)(fV:l al=true)(h0:l i=false)(c1:T.all (fun e=>e.2.1 !=i)=true)
  (c2:B.filter (fun e=>e.2.2.1==i)=[(O,al,i,⟨n,ty,[z],false⟩,⟨n,ty,[.agg cs],false⟩)]) (c3:B.all (fun e=>e.2.1 !=i&&(e.2.2.1==i||e.1 !=O))=true):fl C none (.st n (.t O) (.t a)) fr hp (KI Z T B l i):=by
 have he:(O,al,i,(⟨n,ty,[z],false⟩:HB),(⟨n,ty,[.agg cs],false⟩:HB))∈B:=by
  have:(O,al,i,(⟨n,ty,[z],false⟩:HB),(⟨n,ty,[.agg cs],false⟩:HB))∈B.filter (fun e=>e.2.2.1==i):=by rw[c2];exact Kay.2 rfl
  exact(Kcu.1 this).1
 have hh:=h.a _ he fV h0;show o8 n (fr O) (fr a) fr hp _;rw[hb,ha];unfold o8;simp only[];rw[show(PV.agg cs).refs=[]from rfl,Cv,hh];refine⟨rfl,rfl,hn,by simp,by simp,_,_,Wk.refl _ _,?_⟩;have:=h.store (O:=O) (i:=i) (al:=al) c1 c2 c3;simpa[Qr,cx]using this
end Go.FW
namespace Go.FW
open Go
variable {C : Ctx} {fr : Fr} {hp : HP}
def vp:WB->Fr
 | []=>iG []
 |e::B=>ae (vp B) e.1 (.mp e.1 0 0)
def xC:WB->HP
 | []=>aA
 |e::B=>Qj (xC B) e.1 e.2.2.2.2
theorem Ke:∀(B:WB) {hp:HP},(∀e∈B,hp e.1=some e.2.2.2.2)->∀O,xC B O=hp O∨xC B O=none/\∀e∈B,e.1≠O
 | [],_,_,O=>.inr ⟨rfl,fun e he=>by cases he⟩
 | e ::B,hp,h,O=>by
  by_cases hb:O=e.1
  ·subst hb;exact .inl (by rw[h e Kbt];exact if_pos rfl)
  ·have hs:xC (e::B) O=xC B O:=if_neg hb;rw[hs];rcases Ke B (fun x hx=>h x (KaZ _ hx)) O with k|⟨k1,k2⟩
   ·exact .inl k
   ·exact .inr ⟨k1,fun x hx=>by
     rcases KaH.1 hx with rfl|hx
     ·exact fun e=>hb e.symm
     ·exact k2 x hx⟩
theorem SB:∀(B:WB)(s:Nat),vp B s= .undef∨∃e∈B,s=e.1/\vp B s= .mp s 0 0
 | [],s=>.inl (by simp[vp,iG])
 | e::B,s=>by
  by_cases hb:s=e.1
  ·exact .inr ⟨e,Kbt,hb,by subst hb;exact if_pos rfl⟩
  ·have hs:vp (e::B) s=vp B s:=if_neg hb;rw[hs];rcases SB B s with k|⟨x,hx,k1,k2⟩
   ·exact .inl k
   ·exact .inr ⟨x,KaZ _ hx,k1,k2⟩
theorem cm.fin{Z:List (Nat×PV)}{T:WT}{B:WB}{l:Nat->Bool}(h:cm Z T B l fr hp)(hs:∀e∈B,l e.2.2.1=true)(hb:∀e∈B,fr e.1= .mp e.1 0 0):Wk fr hp (vp B) (xC B):=by
 have hh:∀e∈B,hp e.1=some e.2.2.2.2:=fun e he=>h.s e he (hs e he);refine RE (fun O=>(Ke B hh O).imp id (·.1)) fun s=>?_;rcases SB B s with k|⟨e,he,rfl,k⟩
 ·exact .inl k
 ·refine .inr ⟨by rw[k,hb e he];rfl,fun O aj=>?_⟩;rw[hb e he]at aj;have:O=e.1:=by simpa[PV.refs,PV.aV,PV.bS]using aj
  subst this;rcases Ke B hh e.1 with k|⟨_,k⟩
  ·exact k
  ·exact absurd rfl (k e he)
theorem Dv{K:Qg}{e d n:Nat}{k:IntKind}{xs:List PV}{p:PV}(h:xs[n]? =some p):dt e (.sl e xs) (.int k (n:Nat)) d fr hp K=K (ae fr d (.pt p.cells)) hp:=by obtain⟨hn,rfl⟩:=Kaf.1 h;unfold dt;simp[hn]
theorem aoC{K:Qg}{d:Nat}{x:PV}:iQ 1 false (.pt [x]) d fr hp K=K (ae fr d x) hp:=by have:eZ false 1 0 (.agg [x])=x:=rfl;unfold iQ;simp only[];rw[this];simp
theorem aoD{K:Qg}{d:Nat}{x y:PV}:iQ 2 true (.pt [x,y]) d fr hp K=K (ae fr d (.agg [x,y])) hp:=by have:eZ true 2 0 (.agg [x,y])= .agg [x,y]:=rfl;unfold iQ;simp only[];rw[this];simp
variable {Z : List (Nat × PV)} {T : WT} {B : WB} {l : Nat -> Bool}
theorem cm.cal{P:Program}(h:cm Z T B l fr hp)(hP:C.P=P){g:FuncId}{pr:Bool}{d i:Nat}{args:List aM}{Bj aU:List PV}{r:PV}(hs:Qb P g aU (· =r))(ha:args.map (ev fr)=Bj)(dk:([]++Bj++[]).map (Qr hp)=aU)(dR:aU.all PV.aG=true)(hr:([]++Bj++[]).flatMap PV.refs=[])
  (c1:T.filter (fun e=>e.2.1==i)=[(d,i,r)]) (c2:T.all (fun e=>e.2.1==i||e.1 !=d)=true) (c3:Z.all (fun e=>e.1 !=d)=true) (c4:B.all (fun e=>e.2.1 !=i&&e.2.2.1 !=i)=true):fl C none (.call (some d) pr (.c (.fn g [] [])) args) fr hp (KI Z T B l i):=by
 show gF C pr (.fn g [] []) (args.map (ev fr)) (some d) fr hp _;rw[ha];exact Qy hP hs dk dR hr ⟨_,_,Wk.refl _ _,h.slot c1 c2 c3 c4⟩
theorem cm.bs(h:cm Z T B l fr hp){d i j e ty:Nat}{args:List aM}{ps:List PV}(ha:args.map (ev fr)=ps)(BE:ot ps=false)(h0:0<e)(bd:HO hp e ps)(hr:ps.flatMap PV.refs=[])(zw:ps.map (Qr hp)=ps)(hj:l j=false)
  (c1:T.filter (fun e=>e.2.1==i)=[(d,i,.ax d 0 ps.length)]) (c2:T.all (fun e=>e.2.1==i||(e.2.1==j||(e.1 !=d&& !(e.2.2.refs.contains d))))=true) (c3:Z.all (fun e=>e.1 !=d&& !(e.2.refs.contains d))=true)
  (c4:B.filter (fun e=>e.2.1==i)=[(d,i,i,⟨e,ty,ps,false⟩,⟨e,ty,ps,false⟩)]) (c5:B.all (fun e=>e.2.1==i||(e.2.2.1 !=i&&e.1 !=d))=true) (Jk:i≠j):fl C none (.bs d e ty args) fr hp (KI Z T B l i):=by
 show l7 e ty (args.map (ev fr)) d fr hp _;rw[ha];unfold l7;rw[if_neg (by rw[BE];exact KcQ)];refine⟨h0,bd,_,_,Wk.refl _ _,?_⟩;rw[hr,Cv,zw];have k5:∀e∈B,e.2.1=i∨(e.2.2.1≠i/\e.1≠d):=fun e he=>by
  have:=Kav.1 c5 e he;rcases KbE _ _▸this with k|k
  ·exact .inl (by simpa using k)
  ·exact .inr (by simpa using k)
 refine⟨fun e he=>?_,fun e he hl=>?_,fun e he h1 h2=>?_,fun e he h1=>?_⟩
 ·have k3:e.1≠d/\e.2.refs.contains d=false:=by have:=Kav.1 c3 e he;rw[Ka2]at this;exact⟨by simpa using this.1,by simpa using this.2⟩
  have:ae (bZ d fr) d (.ms d ps.length) e.1=bU d (fr e.1):=by simp[ae,k3.1,bZ]
  rw[this,h.z e he,HJ k3.2]
 ·by_cases hi:e.2.1=i
  ·have:=wC c1 he (by simpa using hi);subst this;simp[ae]
  ·have k2:=Kav.1 c2 e he;have ss:=qE hl hi;have oO:e.2.1≠j:=fun hh=>by rw[hh,hj]at ss;cases ss
   have zE:e.1≠d/\e.2.2.refs.contains d=false:=by
    rw[KbE,KbE]at k2;rcases k2 with k2|k2|k2
    ·exact absurd (by simpa using k2) hi
    ·exact absurd (by simpa using k2) oO
    ·rw[Ka2]at k2;exact⟨by simpa using k2.1,by simpa using k2.2⟩
   have:ae (bZ d fr) d (.ms d ps.length) e.1=bU d (fr e.1):=by simp[ae,zE.1,bZ]
   rw[this,h.t e he ss,HJ zE.2]
 ·by_cases hi:e.2.1=i
  ·have:=wC c4 he (by simpa using hi);subst this;simp at h2
  ·have hd:=((k5 e he).resolve_left hi).2;have:=h.a e he (qE h1 hi) (by simp at h2;exact h2.2);simp[Qj,hd,this]
 ·by_cases hi:e.2.1=i
  ·have:=wC c4 he (by simpa using hi);subst this;simp[Qj]
  ·have hd:=(k5 e he).resolve_left hi;have:=h.s e he (qE h1 hd.1);simp[Qj,hd.2,this]
theorem aoE{s O n:Nat}{E:HB}(h1:fr s= .ax O 0 n)(h2:hp O=some E):Wk fr hp (ae (iG []) s (.ax O 0 n)) (Qj aA O E):=by
 refine RE (fun γ=>?_) fun i=>?_
 ·by_cases hb:γ=O
  ·subst hb;exact .inl (by rw[h2];exact if_pos rfl)
  ·exact .inr (by simp[Qj,hb,aA])
 ·by_cases hb:i=s
  ·subst hb;refine .inr ⟨by rw[h1];exact if_pos rfl,fun γ ah=>?_⟩;rw[h1]at ah;have:γ=O:=by simpa[PV.refs,PV.aV,PV.bS]using ah
   subst this;rw[h2];exact if_pos rfl
  ·exact .inl (by simp[ae,hb,iG])
theorem rE{ks:List Nat}{j:Nat}(R:∀k∈ks,l k=true)(h:ks.contains j=true):l j=true:=R j (by simpa using h)
theorem cm.dq(h:cm Z T B l fr hp){d s i:Nat}{v:PV}(hz:Z.find? (fun e=>e.1==s)=some (s,v):=by rfl)(c1:T.filter (fun e=>e.2.1==i)=[(d,i,v)]:=by rfl)(c2:T.all (fun e=>e.2.1==i||e.1 !=d)=true:=by rfl)(c3:Z.all (fun e=>e.1 !=d)=true:=by rfl)(c4:B.all (fun e=>e.2.1 !=i&&e.2.2.1 !=i)=true:=by rfl):fl C none (.mv d (.t s)) fr hp (KI Z T B l i):=
 h.op (fun K=>congrArg (fun v=>K (ae fr d v) hp) (h.at0 hz)) c1 c2 c3 c4
theorem cm.mv1(h:cm Z T B l fr hp){d s i j:Nat}{v:PV}{ks:List Nat}(R:∀k∈ks,l k=true)(hz:T.find? (fun e=>e.1==s)=some (s,j,v):=by rfl)(hj:ks.contains j=true:=by rfl)(c1:T.filter (fun e=>e.2.1==i)=[(d,i,v)]:=by rfl)(c2:T.all (fun e=>e.2.1==i||e.1 !=d)=true:=by rfl)(c3:Z.all (fun e=>e.1 !=d)=true:=by rfl)(c4:B.all (fun e=>e.2.1 !=i&&e.2.2.1 !=i)=true:=by rfl):fl C none (.mv d (.t s)) fr hp (KI Z T B l i):=
 h.op (fun K=>congrArg (fun v=>K (ae fr d v) hp) (h.at hz (rE R hj))) c1 c2 c3 c4
theorem cm.dN(h:cm Z T B l fr hp){d e s i j n:Nat}{k:IntKind}{xs:List PV}{p:PV}{ks:List Nat}(R:∀k∈ks,l k=true)(hx:xs[n]? =some p)(hz:T.find? (fun e=>e.1==s)=some (s,j,.sl e xs):=by rfl)(hj:ks.contains j=true:=by rfl)(c1:T.filter (fun e=>e.2.1==i)=[(d,i,.pt p.cells)]:=by rfl)(c2:T.all (fun e=>e.2.1==i||e.1 !=d)=true:=by rfl)(c3:Z.all (fun e=>e.1 !=d)=true:=by rfl)(c4:B.all (fun e=>e.2.1 !=i&&e.2.2.1 !=i)=true:=by rfl):fl C none (.idx d e (.t s) (.c (.int k (n:Nat)))) fr hp (KI Z T B l i):=
 h.op (fun K=>by show dt e (fr s) (.int k (n:Nat)) d fr hp K=_;rw[h.at hz (rE R hj)];exact Dv hx) c1 c2 c3 c4
theorem cm.iN(h:cm Z T B l fr hp){d e s s2 i j j2 n:Nat}{k:IntKind}{xs:List PV}{p:PV}{ks:List Nat}(R:∀k∈ks,l k=true)(hx:xs[n]? =some p)(hz:T.find? (fun e=>e.1==s)=some (s,j,.sl e xs):=by rfl)(hj:ks.contains j=true:=by rfl)(BT:T.find? (fun e=>e.1==s2)=some (s2,j2,.int k (n:Nat)):=by rfl)(oO:ks.contains j2=true:=by rfl)(c1:T.filter (fun e=>e.2.1==i)=[(d,i,.pt p.cells)]:=by rfl)(c2:T.all (fun e=>e.2.1==i||e.1 !=d)=true:=by rfl)(c3:Z.all (fun e=>e.1 !=d)=true:=by rfl)(c4:B.all (fun e=>e.2.1 !=i&&e.2.2.1 !=i)=true:=by rfl):fl C none (.idx d e (.t s) (.t s2)) fr hp (KI Z T B l i):=
 h.op (fun K=>by show dt e (fr s) (fr s2) d fr hp K=_;rw[h.at hz (rE R hj),h.at BT (rE R oO)];exact Dv hx) c1 c2 c3 c4
theorem cm.iO(h:cm Z T B l fr hp){d s i j:Nat}{x:PV}{ks:List Nat}(R:∀k∈ks,l k=true)(hz:T.find? (fun e=>e.1==s)=some (s,j,.pt [x]):=by rfl)(hj:ks.contains j=true:=by rfl)(c1:T.filter (fun e=>e.2.1==i)=[(d,i,x)]:=by rfl)(c2:T.all (fun e=>e.2.1==i||e.1 !=d)=true:=by rfl)(c3:Z.all (fun e=>e.1 !=d)=true:=by rfl)(c4:B.all (fun e=>e.2.1 !=i&&e.2.2.1 !=i)=true:=by rfl):fl C none (.ld d 1 false (.t s)) fr hp (KI Z T B l i):=
 h.op (fun K=>by show iQ 1 false (fr s) d fr hp K=_;rw[h.at hz (rE R hj)];exact aoC) c1 c2 c3 c4
theorem cm.iP(h:cm Z T B l fr hp){d s i j:Nat}{x y:PV}{ks:List Nat}(R:∀k∈ks,l k=true)(hz:T.find? (fun e=>e.1==s)=some (s,j,.pt [x,y]):=by rfl)(hj:ks.contains j=true:=by rfl)(c1:T.filter (fun e=>e.2.1==i)=[(d,i,.agg [x,y])]:=by rfl)(c2:T.all (fun e=>e.2.1==i||e.1 !=d)=true:=by rfl)(c3:Z.all (fun e=>e.1 !=d)=true:=by rfl)(c4:B.all (fun e=>e.2.1 !=i&&e.2.2.1 !=i)=true:=by rfl):fl C none (.ld d 2 true (.t s)) fr hp (KI Z T B l i):=
 h.op (fun K=>by show iQ 2 true (fr s) d fr hp K=_;rw[h.at hz (rE R hj)];exact aoD) c1 c2 c3 c4
theorem Tt{A:List (List Nat)}{s i:Nat}(D:∀j,l j=true->∀k∈A.getD j [],l k=true)(h0:l i=false)(h:(A.getD s []).contains i=true):l s=false:=by
 cases e:l s with
 |false=>rfl
 |true=>rw[D s e i (by simpa using h)]at h0;cases h0
theorem cm.al(h:cm Z T B l fr hp){d i st n ty:Nat}{cs:List PV}{F:HB}{A:List (List Nat)}(D:∀j,l j=true->∀k∈A.getD j [],l k=true)(h0:l i=false)(c4:B.filter (fun e=>e.2.1==i)=[(d,i,st,⟨n,ty,[.agg cs],false⟩,F)]:=by rfl)(hA:(A.getD st []).contains i=true:=by rfl)(hz:(PV.agg cs).cells.length=n:=by rfl)(hn:Nat.ble 1 n=true:=by rfl)(c1:T.filter (fun e=>e.2.1==i)=[(d,i,.mp d 0 0)]:=by rfl)(c2:T.all (fun e=>e.2.1==i||e.1 !=d&& !(e.2.2.refs.contains d))=true:=by rfl)(c3:Z.all (fun e=>e.1 !=d&& !(e.2.refs.contains d))=true:=by rfl)
  (c5:B.all (fun e=>e.2.2.1 !=i&&(e.2.1==i||e.1 !=d))=true:=by rfl):fl C none (.alloc d n ty (.agg cs)) fr hp (KI Z T B l i):=h.alloc ⟨hz,Nat.le_of_ble_eq_true hn⟩ c1 c2 c3 c4 c5 (Tt D h0 hA)
theorem cm.zQ(h:cm Z T B l fr hp){O a i al j n ty:Nat}{z:PV}{cs:List PV}{ks:List Nat}(R:∀k∈ks,l k=true)(h0:l i=false)(hb:T.find? (fun e=>e.1==O)=some (O,al,.mp O 0 0):=by rfl)(hj:ks.contains al=true:=by rfl)(ha:T.find? (fun e=>e.1==a)=some (a,j,.agg cs):=by rfl)(oO:ks.contains j=true:=by rfl)(c2:B.filter (fun e=>e.2.2.1==i)=[(O,al,i,⟨n,ty,[z],false⟩,⟨n,ty,[.agg cs],false⟩)]:=by rfl)(hn:(PV.agg cs).cells.length=n:=by rfl)(c1:T.all (fun e=>e.2.1 !=i)=true:=by rfl)
  (c3:B.all (fun e=>e.2.1 !=i&&(e.2.2.1==i||e.1 !=O))=true:=by rfl):fl C none (.st n (.t O) (.t a)) fr hp (KI Z T B l i):=h.st (h.at hb (rE R hj)) (h.at ha (rE R oO)) hn (rE R hj) h0 c1 c2 c3
def JK(T:WT):List aM->List (Nat×PV)
 | []=>[]
 |.t s::os=>(((T.find? (fun e=>e.1==s)).map (·.2)).getD (0,.undef))::JK T os
 |_::_=>[]
def GC(T:WT)(ks:List Nat):List aM->Bool
 | []=>true
 |.t s::os=>(match T.find? (fun e=>e.1==s)with|some e=>e.1==s&&ks.contains e.2.1|none=>false)&&GC T ks os
 |_::_=>false
theorem cm.args(h:cm Z T B l fr hp){ks:List Nat}(R:∀k∈ks,l k=true):∀(os:List aM),GC T ks os=true->os.map (ev fr)=(JK T os).map (·.2)
 | [],_=>rfl
 |.t s::os,hk=>by
  rw[GC,Ka2]at hk;obtain⟨h1,h2⟩:=hk;rw[JK,Kbn,Kbn,cm.args h R os h2];split at h1
  ·rename_i e he;rw[Ka2]at h1;obtain⟨e1,e2,e3⟩:=e;have es:e1=s:=by simpa using h1.1
   subst es;rw[he];have:ev fr (.t e1)=fr e1:=rfl;rw[this,h.at he (rE R h1.2)];rfl
  ·cases h1
 |.c _::_,hk=>by cases hk
def lkV(T:WT)(os:List aM):List PV:=(JK T os).map (·.2)
theorem cm.ca(h:cm Z T B l fr hp){P:Program}(hP:C.P=P){g:FuncId}{pr:Bool}{d i:Nat}{args:List aM}{aU:List PV}{r:PV}{ks:List Nat}(R:∀k∈ks,l k=true)(hs:Qb P g aU (· =r))(hk:GC T ks args=true:=by rfl)(dk:([]++lkV T args++[]).map (Qr hp)=aU:=by rfl)(dR:aU.all PV.aG=true:=by rfl)(hr:([]++lkV T args++[]).flatMap PV.refs=[]:=by rfl)
  (c1:T.filter (fun e=>e.2.1==i)=[(d,i,r)]:=by rfl) (c2:T.all (fun e=>e.2.1==i||e.1 !=d)=true:=by rfl) (c3:Z.all (fun e=>e.1 !=d)=true:=by rfl) (c4:B.all (fun e=>e.2.1 !=i&&e.2.2.1 !=i)=true:=by rfl):fl C none (.call (some d) pr (.c (.fn g [] [])) args) fr hp (KI Z T B l i):=h.cal hP hs (h.args R args hk) dk dR hr c1 c2 c3 c4
theorem cm.b1(h:cm Z T B l fr hp){d i j j2 s ty:Nat}{q:List Tm}{ks:List Nat}{A:List (List Nat)}(R:∀k∈ks,l k=true)(D:∀j,l j=true->∀k∈A.getD j [],l k=true)(h0:l i=false)(hz:T.find? (fun e=>e.1==s)=some (s,j2,PV.ay q):=by rfl)(hj:ks.contains j2=true:=by rfl)(hi:j=i+1:=by rfl)(hA:(A.getD j []).contains i=true:=by rfl)
  (c1:T.filter (fun e=>e.2.1==i)=[(d,i,.ax d 0 1)]:=by rfl) (c2:T.all (fun e=>e.2.1==i||(e.2.1==j||(e.1 !=d&& !(e.2.2.refs.contains d))))=true:=by rfl) (c3:Z.all (fun e=>e.1 !=d&& !(e.2.refs.contains d))=true:=by rfl)
  (c4:B.filter (fun e=>e.2.1==i)=[(d,i,i,⟨1,ty,[PV.ay q],false⟩,⟨1,ty,[PV.ay q],false⟩)]:=by rfl) (c5:B.all (fun e=>e.2.1==i||(e.2.2.1 !=i&&e.1 !=d))=true:=by rfl):fl C none (.bs d 1 ty [.t s]) fr hp (KI Z T B l i):=by
 refine h.bs (j:=j) (ps:=[PV.ay q]) (by show [fr s]=_;rw[h.at hz (rE R hj)]) rfl (by decide) (fun p h=>by rw[Kay.1 h];exact⟨rfl,rfl⟩) rfl rfl (Tt D h0 hA) c1 c2 c3 c4 c5 (by omega)
end Go.FW
