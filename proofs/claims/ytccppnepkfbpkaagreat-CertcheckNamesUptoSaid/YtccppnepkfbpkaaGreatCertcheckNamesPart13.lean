/- Part 13 of the proof of CertcheckNames: K23, FwYF, FwYG, FwYH. Own lemmas; no conditions. -/
import Derived.Test.YtccppnepkfbpkaaGreatCertcheckNamesPart12
set_option maxHeartbeats 1000000
set_option linter.unusedSimpArgs false
set_option linter.unusedVariables false
set_option linter.unnecessarySimpa false
set_option maxRecDepth 100000
namespace Go.Proofs.YtccppnepkfbpkaaGreat
open Go Go.FW
noncomputable def F6 : Array Oper := GH Tryz.f86 12
def An:List mJ:=[⟨none,.mv 133 (.t 1)⟩,⟨none,.mv 134 (.t 5)⟩,⟨none,.idx 135 1 (.t 134) (.c (.int .i64 0))⟩,⟨none,.ld 136 1 false (.t 135)⟩,⟨none,.idx 137 2 (.t 133) (.t 136)⟩,⟨none,.ld 138 2 true (.t 137)⟩,⟨none,.mv 139 (.t 1)⟩,⟨none,.mv 140 (.t 5)⟩,⟨none,.idx 141 1 (.t 140) (.c (.int .i64 1))⟩,⟨none,.ld 142 1 false (.t 141)⟩,⟨none,.idx 143 2 (.t 139) (.t 142)⟩,⟨none,.ld 144 2 true (.t 143)⟩,⟨none,.mv 145 (.t 1)⟩,⟨none,.mv 146 (.t 5)⟩,⟨none,.idx 147 1 (.t 146) (.c (.int .i64 2))⟩,⟨none,.ld 148 1 false (.t 147)⟩,⟨none,.idx 149 2 (.t 145) (.t 148)⟩,⟨none,.ld 150 2 true (.t 149)⟩,⟨none,.alloc 6 2 135 (.agg [.aa,.aa])⟩,⟨none,.alloc 7 2 135 (.agg [.aa,.aa])⟩,⟨none,.alloc 8 2 135 (.agg [.aa,.aa])⟩,⟨none,.st 2 (.t 6) (.t 138)⟩,⟨none,.st 2 (.t 7) (.t 144)⟩,⟨none,.st 2 (.t 8) (.t 150)⟩]
def EA:List (List Nat):=[[],[],[1],[2],[0,3],[4],[],[],[7],[8],[6,9],[10],[],[],[13],[14],[12,15],[16],[],[],[],[18,5,0,1,2,3,4,5,18,19,20],[19,11,21,0,1,2,3,4,5,6,7,8,9,10,11,18,19,20,21],[20,17,22,0,1,2,3,4,5,6,7,8,9,10,11,12,13,14,15,16,17,18,19,20,21,22]]
theorem aaq:F6.toList.map (kq Tryz.prog 390 true F6)=An.map some:=by kernel_rfl
theorem aar:F6.toList.map (fun o=>(o.after.toList.filter (Region.binds .any)).map (·.on))=EA:=by kernel_rfl
noncomputable def F7 : Array Oper := GH Tryz.f86 15
def Ao:List mJ:=[⟨none,.mv 176 (.t 1)⟩,⟨none,.mv 177 (.t 5)⟩,⟨none,.idx 178 1 (.t 177) (.c (.int .i64 0))⟩,⟨none,.ld 179 1 false (.t 178)⟩,⟨none,.idx 180 2 (.t 176) (.t 179)⟩,⟨none,.ld 181 2 true (.t 180)⟩,⟨none,.mv 182 (.t 1)⟩,⟨none,.mv 183 (.t 5)⟩,⟨none,.idx 184 1 (.t 183) (.c (.int .i64 1))⟩,⟨none,.ld 185 1 false (.t 184)⟩,⟨none,.idx 186 2 (.t 182) (.t 185)⟩,⟨none,.ld 187 2 true (.t 186)⟩,⟨none,.mv 188 (.t 1)⟩,⟨none,.mv 189 (.t 5)⟩,⟨none,.idx 190 1 (.t 189) (.c (.int .i64 2))⟩,⟨none,.ld 191 1 false (.t 190)⟩,⟨none,.idx 192 2 (.t 188) (.t 191)⟩,⟨none,.ld 193 2 true (.t 192)⟩,⟨none,.mv 194 (.t 1)⟩,⟨none,.mv 195 (.t 5)⟩,⟨none,.idx 196 1 (.t 195) (.c (.int .i64 3))⟩,⟨none,.ld 197 1 false (.t 196)⟩,⟨none,.idx 198 2 (.t 194) (.t 197)⟩,⟨none,.ld 199 2 true (.t 198)⟩,⟨none,.alloc 9 2 135 (.agg [.aa,.aa])⟩,⟨none,.alloc 10 2 135 (.agg [.aa,.aa])⟩,⟨none,.alloc 11 2 135 (.agg [.aa,.aa])⟩,⟨none,.alloc 12 2 135 (.agg [.aa,.aa])⟩,⟨none,.st 2 (.t 9) (.t 181)⟩,⟨none,.st 2 (.t 10) (.t 187)⟩,⟨none,.st 2 (.t 11) (.t 193)⟩,⟨none,.st 2 (.t 12) (.t 199)⟩]
def EB:List (List Nat):=[[],[],[1],[2],[0,3],[4],[],[],[7],[8],[6,9],[10],[],[],[13],[14],[12,15],[16],[],[],[19],[20],[18,21],[22],[],[],[],[],[24,5,0,1,2,3,4,5,24,25,26,27],[25,11,28,0,1,2,3,4,5,6,7,8,9,10,11,24,25,26,27,28],[26,17,29,0,1,2,3,4,5,6,7,8,9,10,11,12,13,14,15,16,17,24,25,26,27,28,29],[27,23,30,0,1,2,3,4,5,6,7,8,9,10,11,12,13,14,15,16,17,18,19,20,21,22,23,24,25,26,27,28,29,30]]
theorem aas:F7.toList.map (kq Tryz.prog 390 true F7)=Ao.map some:=by kernel_rfl
theorem aat:F7.toList.map (fun o=>(o.after.toList.filter (Region.binds .any)).map (·.on))=EB:=by kernel_rfl
noncomputable def F8 : Array Oper := GH Tryz.f86 18
def Gt:List mJ:=[⟨none,.mv 224 (.t 1)⟩,⟨none,.mv 225 (.t 5)⟩,⟨none,.idx 226 1 (.t 225) (.c (.int .i64 0))⟩,⟨none,.ld 227 1 false (.t 226)⟩,⟨none,.idx 228 2 (.t 224) (.t 227)⟩,⟨none,.ld 229 2 true (.t 228)⟩,⟨none,.mv 230 (.t 1)⟩,⟨none,.mv 231 (.t 5)⟩,⟨none,.idx 232 1 (.t 231) (.c (.int .i64 1))⟩,⟨none,.ld 233 1 false (.t 232)⟩,⟨none,.idx 234 2 (.t 230) (.t 233)⟩,⟨none,.ld 235 2 true (.t 234)⟩,⟨none,.mv 236 (.t 1)⟩,⟨none,.mv 237 (.t 5)⟩,⟨none,.idx 238 1 (.t 237) (.c (.int .i64 2))⟩,⟨none,.ld 239 1 false (.t 238)⟩,⟨none,.idx 240 2 (.t 236) (.t 239)⟩,⟨none,.ld 241 2 true (.t 240)⟩,⟨none,.mv 242 (.t 1)⟩,⟨none,.mv 243 (.t 5)⟩,⟨none,.idx 244 1 (.t 243) (.c (.int .i64 3))⟩,⟨none,.ld 245 1 false (.t 244)⟩,⟨none,.idx 246 2 (.t 242) (.t 245)⟩,⟨none,.ld 247 2 true (.t 246)⟩,⟨none,.call (some 248) true (.c (.fn 84 [] [])) [(.t 229),(.t 235),(.t 241),(.t 247)]⟩,⟨none,.mv 249 (.t 1)⟩,⟨none,.mv 250 (.t 5)⟩,⟨none,.idx 251 1 (.t 250) (.c (.int .i64 0))⟩,⟨none,.ld 252 1 false (.t 251)⟩,⟨none,.idx 253 2 (.t 249) (.t 252)⟩,⟨none,.ld 254 2 true (.t 253)⟩,⟨none,.mv 255 (.t 1)⟩,⟨none,.mv 256 (.t 5)⟩,⟨none,.idx 257 1 (.t 256) (.c (.int .i64 1))⟩,⟨none,.ld 258 1 false (.t 257)⟩,⟨none,.idx 259 2 (.t 255) (.t 258)⟩,⟨none,.ld 260 2 true (.t 259)⟩,⟨none,.mv 261 (.t 1)⟩,⟨none,.mv 262 (.t 5)⟩,⟨none,.idx 263 1 (.t 262) (.c (.int .i64 2))⟩,⟨none,.ld 264 1 false (.t 263)⟩,⟨none,.idx 265 2 (.t 261) (.t 264)⟩,⟨none,.ld 266 2 true (.t 265)⟩,⟨none,.mv 267 (.t 1)⟩,⟨none,.mv 268 (.t 5)⟩,⟨none,.idx 269 1 (.t 268) (.c (.int .i64 3))⟩,⟨none,.ld 270 1 false (.t 269)⟩,⟨none,.idx 271 2 (.t 267) (.t 270)⟩,⟨none,.ld 272 2 true (.t 271)⟩,⟨none,.call (some 273) true (.c (.fn 136 [] [])) [(.t 254),(.t 260),(.t 266),(.t 272)]⟩,⟨none,.mv 274 (.t 1)⟩,⟨none,.mv 275 (.t 5)⟩,⟨none,.idx 276 1 (.t 275) (.c (.int .i64 4))⟩,⟨none,.ld 277 1 false (.t 276)⟩,⟨none,.idx 278 2 (.t 274) (.t 277)⟩,⟨none,.ld 279 2 true (.t 278)⟩,⟨none,.mv 280 (.t 1)⟩,⟨none,.mv 281 (.t 5)⟩,⟨none,.idx 282 1 (.t 281) (.c (.int .i64 5))⟩,⟨none,.ld 283 1 false (.t 282)⟩,⟨none,.idx 284 2 (.t 280) (.t 283)⟩,⟨none,.ld 285 2 true (.t 284)⟩,⟨none,.mv 286 (.t 1)⟩,⟨none,.mv 287 (.t 5)⟩,⟨none,.idx 288 1 (.t 287) (.c (.int .i64 6))⟩,⟨none,.ld 289 1 false (.t 288)⟩,⟨none,.idx 290 2 (.t 286) (.t 289)⟩,⟨none,.ld 291 2 true (.t 290)⟩,⟨none,.mv 292 (.t 1)⟩,⟨none,.mv 293 (.t 5)⟩,⟨none,.idx 294 1 (.t 293) (.c (.int .i64 7))⟩,⟨none,.ld 295 1 false (.t 294)⟩,⟨none,.idx 296 2 (.t 292) (.t 295)⟩,⟨none,.ld 297 2 true (.t 296)⟩,⟨none,.call (some 298) true (.c (.fn 84 [] [])) [(.t 279),(.t 285),(.t 291),(.t 297)]⟩,⟨none,.mv 299 (.t 1)⟩,⟨none,.mv 300 (.t 5)⟩,⟨none,.idx 301 1 (.t 300) (.c (.int .i64 4))⟩,⟨none,.ld 302 1 false (.t 301)⟩,⟨none,.idx 303 2 (.t 299) (.t 302)⟩,⟨none,.ld 304 2 true (.t 303)⟩,⟨none,.mv 305 (.t 1)⟩,⟨none,.mv 306 (.t 5)⟩,⟨none,.idx 307 1 (.t 306) (.c (.int .i64 5))⟩,⟨none,.ld 308 1 false (.t 307)⟩,⟨none,.idx 309 2 (.t 305) (.t 308)⟩,⟨none,.ld 310 2 true (.t 309)⟩,⟨none,.mv 311 (.t 1)⟩,⟨none,.mv 312 (.t 5)⟩,⟨none,.idx 313 1 (.t 312) (.c (.int .i64 6))⟩,⟨none,.ld 314 1 false (.t 313)⟩,⟨none,.idx 315 2 (.t 311) (.t 314)⟩,⟨none,.ld 316 2 true (.t 315)⟩,⟨none,.mv 317 (.t 1)⟩,⟨none,.mv 318 (.t 5)⟩,⟨none,.idx 319 1 (.t 318) (.c (.int .i64 7))⟩,⟨none,.ld 320 1 false (.t 319)⟩,⟨none,.idx 321 2 (.t 317) (.t 320)⟩,⟨none,.ld 322 2 true (.t 321)⟩,⟨none,.call (some 323) true (.c (.fn 136 [] [])) [(.t 304),(.t 310),(.t 316),(.t 322)]⟩,⟨none,.call (some 324) true (.c (.fn 139 [] [])) [(.t 248),(.t 273),(.t 298),(.t 323)]⟩,⟨none,.bs 325 1 43 [(.t 324)]⟩,⟨none,.mv 4 (.t 325)⟩]
def EC:List (List Nat):=[[],[],[1],[2],[0,3],[4],[],[],[7],[8],[6,9],[10],[],[],[13],[14],[12,15],[16],[],[],[19],[20],[18,21],[22],[5,11,17,23],[],[],[26],[27],[25,28],[29],[],[],[32],[33],[31,34],[35],[],[],[38],[39],[37,40],[41],[],[],[44],[45],[43,46],[47],[30,36,42,48,24],[],[],[51],[52],[50,53],[54],[],[],[57],[58],[56,59],[60],[],[],[63],[64],[62,65],[66],[],[],[69],[70],[68,71],[72],[55,61,67,73,49],[],[],[76],[77],[75,78],[79],[],[],[82],[83],[81,84],[85],[],[],[88],[89],[87,90],[91],[],[],[94],[95],[93,96],[97],[80,86,92,98,74],[24,49,74,99,99],[100],[101,100,0,1,2,3,4,5,6,7,8,9,10,11,12,13,14,15,16,17,18,19,20,21,22,23,24,25,26,27,28,29,30,31,32,33,34,35,36,37,38,39,40,41,42,43,44,45,46,47,48,49,50,51,52,53,54,55,56,57,58,59,60,61,62,63,64,65,66,67,68,69,70,71,72,73,74,75,76,77,78,79,80,81,82,83,84,85,86,87,88,89,90,91,92,93,94,95,96,97,98,99,100,101]]
theorem aau:F8.toList.map (kq Tryz.prog 390 true F8)=Gt.map some:=by kernel_rfl
theorem ZU:F8.toList.map (fun o=>(o.after.toList.filter (Region.binds .any)).map (·.on))=EC:=by kernel_rfl
noncomputable def EH : ay := ⟨390, [.t 4], .seq (.rg (.o none (.box 2 5 103 (.t 0)) <|
 .o none (.mv 4 (.c .aa)) .nil)) <| .seq (.rg (.o none (.cc 13 1 (.t 2)) <|
 .o none (.ld 14 1 false (.t 13)) <|
 .o none (.mv 5 (.t 14)) .nil)) <| .seq (.seq (.rg (.o none (.cc 15 0 (.t 2)) <|
 .o none (.ld 16 1 false (.t 15)) .nil)) <| .block 0 (.seq (.rg (.o none (.bin 18 .eql false (.t 16) (.c (.int .i64 1))) <|
 .o none (.mv 17 (.t 18)) .nil)) <| .cond (.t 17) (.seq (.rg (.o none (.mv 19 (.t 1)) <|
 .o none (.mv 20 (.t 5)) <|
 .o none (.idx 21 1 (.t 20) (.c (.int .i64 0))) <|
 .o none (.ld 22 1 false (.t 21)) <|
 .o none (.idx 23 2 (.t 19) (.t 22)) <|
 .o none (.ld 24 2 true (.t 23)) <|
 .o none (.mv 25 (.t 1)) <|
 .o none (.mv 26 (.t 5)) <|
 .o none (.idx 27 1 (.t 26) (.c (.int .i64 1))) <|
 .o none (.ld 28 1 false (.t 27)) <|
 .o none (.idx 29 2 (.t 25) (.t 28)) <|
 .o none (.ld 30 2 true (.t 29)) <|
 .o none (.mv 31 (.t 1)) <|
 .o none (.mv 32 (.t 5)) <|
 .o none (.idx 33 1 (.t 32) (.c (.int .i64 0))) <|
 .o none (.ld 34 1 false (.t 33)) <|
 .o none (.idx 35 2 (.t 31) (.t 34)) <|
 .o none (.ld 36 2 true (.t 35)) <|
 .o none (.mv 37 (.t 1)) <|
 .o none (.mv 38 (.t 5)) <|
 .o none (.idx 39 1 (.t 38) (.c (.int .i64 2))) <|
 .o none (.ld 40 1 false (.t 39)) <|
 .o none (.idx 41 2 (.t 37) (.t 40)) <|
 .o none (.ld 42 2 true (.t 41)) <|
 .o none (.call (some 43) false (.c (.fn 84 [] [])) [(.t 24), (.t 30), (.t 36), (.t 42)]) <|
 .o none (.bs 44 1 43 [(.t 43)]) <|
 .o none (.mv 4 (.t 44)) .nil)) <| .ret) (.seq (.rg (.o none (.bin 46 .eql false (.t 16) (.c (.int .i64 2))) <|
 .o none (.mv 45 (.t 46)) .nil)) <| .cond (.t 45) (.seq (.rg (.o none (.mv 47 (.t 1)) <|
 .o none (.mv 48 (.t 5)) <|
 .o none (.idx 49 1 (.t 48) (.c (.int .i64 0))) <|
 .o none (.ld 50 1 false (.t 49)) <|
 .o none (.idx 51 2 (.t 47) (.t 50)) <|
 .o none (.ld 52 2 true (.t 51)) <|
 .o none (.mv 53 (.t 1)) <|
 .o none (.mv 54 (.t 5)) <|
 .o none (.idx 55 1 (.t 54) (.c (.int .i64 1))) <|
 .o none (.ld 56 1 false (.t 55)) <|
 .o none (.idx 57 2 (.t 53) (.t 56)) <|
 .o none (.ld 58 2 true (.t 57)) <|
 .o none (.mv 59 (.t 1)) <|
 .o none (.mv 60 (.t 5)) <|
 .o none (.idx 61 1 (.t 60) (.c (.int .i64 2))) <|
 .o none (.ld 62 1 false (.t 61)) <|
 .o none (.idx 63 2 (.t 59) (.t 62)) <|
 .o none (.ld 64 2 true (.t 63)) <|
 .o none (.mv 65 (.t 1)) <|
 .o none (.mv 66 (.t 5)) <|
 .o none (.idx 67 1 (.t 66) (.c (.int .i64 3))) <|
 .o none (.ld 68 1 false (.t 67)) <|
 .o none (.idx 69 2 (.t 65) (.t 68)) <|
 .o none (.ld 70 2 true (.t 69)) <|
 .o none (.call (some 71) false (.c (.fn 84 [] [])) [(.t 52), (.t 58), (.t 64), (.t 70)]) <|
 .o none (.bs 72 1 43 [(.t 71)]) <|
 .o none (.mv 4 (.t 72)) .nil)) <| .ret) (.seq (.rg (.o none (.bin 74 .eql false (.t 16) (.c (.int .i64 3))) <|
 .o none (.mv 73 (.t 74)) .nil)) <| .cond (.t 73) (.seq (.rg (.o none (.mv 75 (.t 1)) <|
 .o none (.mv 76 (.t 5)) <|
 .o none (.idx 77 1 (.t 76) (.c (.int .i64 0))) <|
 .o none (.ld 78 1 false (.t 77)) <|
 .o none (.idx 79 2 (.t 75) (.t 78)) <|
 .o none (.ld 80 2 true (.t 79)) <|
 .o none (.mv 81 (.t 1)) <|
 .o none (.mv 82 (.t 5)) <|
 .o none (.idx 83 1 (.t 82) (.c (.int .i64 1))) <|
 .o none (.ld 84 1 false (.t 83)) <|
 .o none (.idx 85 2 (.t 81) (.t 84)) <|
 .o none (.ld 86 2 true (.t 85)) <|
 .o none (.mv 87 (.t 1)) <|
 .o none (.mv 88 (.t 5)) <|
 .o none (.idx 89 1 (.t 88) (.c (.int .i64 2))) <|
 .o none (.ld 90 1 false (.t 89)) <|
 .o none (.idx 91 2 (.t 87) (.t 90)) <|
 .o none (.ld 92 2 true (.t 91)) <|
 .o none (.mv 93 (.t 1)) <|
 .o none (.mv 94 (.t 5)) <|
 .o none (.idx 95 1 (.t 94) (.c (.int .i64 3))) <|
 .o none (.ld 96 1 false (.t 95)) <|
 .o none (.idx 97 2 (.t 93) (.t 96)) <|
 .o none (.ld 98 2 true (.t 97)) <|
 .o none (.call (some 99) false (.c (.fn 136 [] [])) [(.t 80), (.t 86), (.t 92), (.t 98)]) <|
 .o none (.bs 100 1 43 [(.t 99)]) <|
 .o none (.mv 4 (.t 100)) .nil)) <| .ret) (.seq (.rg (.o none (.bin 102 .eql false (.t 16) (.c (.int .i64 4))) <|
 .o none (.mv 101 (.t 102)) .nil)) <| .cond (.t 101) (.seq (.rg (.o none (.mv 103 (.t 1)) <|
 .o none (.mv 104 (.t 5)) <|
 .o none (.idx 105 1 (.t 104) (.c (.int .i64 0))) <|
 .o none (.ld 106 1 false (.t 105)) <|
 .o none (.idx 107 2 (.t 103) (.t 106)) <|
 .o none (.ld 108 2 true (.t 107)) <|
 .o none (.mv 109 (.t 1)) <|
 .o none (.mv 110 (.t 5)) <|
 .o none (.idx 111 1 (.t 110) (.c (.int .i64 1))) <|
 .o none (.ld 112 1 false (.t 111)) <|
 .o none (.idx 113 2 (.t 109) (.t 112)) <|
 .o none (.ld 114 2 true (.t 113)) <|
 .o none (.mv 116 (.t 1)) <|
 .o none (.mv 117 (.t 5)) <|
 .o none (.idx 118 1 (.t 117) (.c (.int .i64 2))) <|
 .o none (.ld 119 1 false (.t 118)) <|
 .o none (.idx 120 2 (.t 116) (.t 119)) <|
 .o none (.ld 121 2 true (.t 120)) <|
 .o none (.mv 122 (.t 1)) <|
 .o none (.mv 123 (.t 5)) <|
 .o none (.idx 124 1 (.t 123) (.c (.int .i64 3))) <|
 .o none (.ld 125 1 false (.t 124)) <|
 .o none (.idx 126 2 (.t 122) (.t 125)) <|
 .o none (.ld 127 2 true (.t 126)) <|
 .o none (.call (some 115) true (.c (.fn 83 [] [])) [(.t 108), (.t 114)]) <|
 .o none (.call (some 128) true (.c (.fn 83 [] [])) [(.t 121), (.t 127)]) <|
 .o none (.call (some 129) true (.c (.fn 137 [] [])) [(.t 115), (.t 128)]) <|
 .o none (.bs 130 1 43 [(.t 129)]) <|
 .o none (.mv 4 (.t 130)) .nil)) <| .ret) (.seq (.rg (.o none (.bin 132 .eql false (.t 16) (.c (.int .i64 5))) <|
 .o none (.mv 131 (.t 132)) .nil)) <| .cond (.t 131) (.seq (.raw 12 F6) <| .seq (.rg (.o none (.cc 151 0 (.t 7)) <|
 .o none (.ld 152 1 false (.t 151)) <|
 .o none (.cc 153 0 (.t 8)) <|
 .o none (.ld 154 1 false (.t 153)) <|
 .o none (.cc 156 0 (.t 6)) <|
 .o none (.ld 157 1 false (.t 156)) <|
 .o none (.cc 158 0 (.t 6)) <|
 .o none (.ld 159 1 false (.t 158)) <|
 .o none (.cc 162 1 (.t 7)) <|
 .o none (.ld 163 1 false (.t 162)) <|
 .o none (.cc 164 1 (.t 8)) <|
 .o none (.ld 165 1 false (.t 164)) <|
 .o none (.cc 167 1 (.t 6)) <|
 .o none (.ld 168 1 false (.t 167)) <|
 .o none (.cc 169 1 (.t 6)) <|
 .o none (.ld 170 1 false (.t 169)) <|
 .o none (.call (some 155) true (.c (.fn 46 [] [])) [(.t 152), (.t 154)]) <|
 .o none (.call (some 160) true (.c (.fn 46 [] [])) [(.t 157), (.t 159)]) <|
 .o none (.call (some 161) true (.c (.fn 137 [] [])) [(.t 155), (.t 160)]) <|
 .o none (.call (some 166) true (.c (.fn 46 [] [])) [(.t 163), (.t 165)]) <|
 .o none (.call (some 171) true (.c (.fn 46 [] [])) [(.t 168), (.t 170)]) <|
 .o none (.call (some 172) true (.c (.fn 137 [] [])) [(.t 166), (.t 171)]) <|
 .o none (.bs 173 1 43 [(.t 161), (.t 172)]) <|
 .o none (.mv 4 (.t 173)) .nil)) <| .ret) (.seq (.rg (.o none (.bin 175 .eql false (.t 16) (.c (.int .i64 6))) <|
 .o none (.mv 174 (.t 175)) .nil)) <| .cond (.t 174) (.seq (.raw 15 F7) <| .seq (.rg (.o none (.ld 200 2 true (.t 10)) <|
 .o none (.ld 201 2 true (.t 9)) <|
 .o none (.ld 202 2 true (.t 10)) <|
 .o none (.ld 203 2 true (.t 11)) <|
 .o none (.ld 205 2 true (.t 10)) <|
 .o none (.ld 206 2 true (.t 9)) <|
 .o none (.ld 207 2 true (.t 10)) <|
 .o none (.ld 208 2 true (.t 11)) <|
 .o none (.ld 210 2 true (.t 12)) <|
 .o none (.ld 211 2 true (.t 9)) <|
 .o none (.ld 212 2 true (.t 12)) <|
 .o none (.ld 213 2 true (.t 11)) <|
 .o none (.ld 215 2 true (.t 12)) <|
 .o none (.ld 216 2 true (.t 9)) <|
 .o none (.ld 217 2 true (.t 12)) <|
 .o none (.ld 218 2 true (.t 11)) <|
 .o none (.call (some 204) true (.c (.fn 84 [] [])) [(.t 200), (.t 201), (.t 202), (.t 203)]) <|
 .o none (.call (some 209) true (.c (.fn 136 [] [])) [(.t 205), (.t 206), (.t 207), (.t 208)]) <|
 .o none (.call (some 214) true (.c (.fn 84 [] [])) [(.t 210), (.t 211), (.t 212), (.t 213)]) <|
 .o none (.call (some 219) true (.c (.fn 136 [] [])) [(.t 215), (.t 216), (.t 217), (.t 218)]) <|
 .o none (.call (some 220) true (.c (.fn 139 [] [])) [(.t 204), (.t 209), (.t 214), (.t 219)]) <|
 .o none (.bs 221 1 43 [(.t 220)]) <|
 .o none (.mv 4 (.t 221)) .nil)) <| .ret) (.seq (.rg (.o none (.bin 223 .eql false (.t 16) (.c (.int .i64 7))) <|
 .o none (.mv 222 (.t 223)) .nil)) <| .cond (.t 222) (.seq (.raw 18 F8) <| .ret) (.seq (.rg (.o none (.bin 327 .eql false (.t 16) (.c (.int .i64 8))) <|
 .o none (.mv 326 (.t 327)) .nil)) <| .cond (.t 326) (.seq (.rg (.o none (.mv 328 (.t 1)) <|
 .o none (.mv 329 (.t 5)) <|
 .o none (.idx 330 1 (.t 329) (.c (.int .i64 0))) <|
 .o none (.ld 331 1 false (.t 330)) <|
 .o none (.idx 332 2 (.t 328) (.t 331)) <|
 .o none (.cc 333 0 (.t 332)) <|
 .o none (.ld 334 1 false (.t 333)) <|
 .o none (.mv 335 (.t 1)) <|
 .o none (.mv 336 (.t 5)) <|
 .o none (.idx 337 1 (.t 336) (.c (.int .i64 1))) <|
 .o none (.ld 338 1 false (.t 337)) <|
 .o none (.idx 339 2 (.t 335) (.t 338)) <|
 .o none (.cc 340 0 (.t 339)) <|
 .o none (.ld 341 1 false (.t 340)) <|
 .o none (.mv 343 (.t 1)) <|
 .o none (.mv 344 (.t 5)) <|
 .o none (.idx 345 1 (.t 344) (.c (.int .i64 0))) <|
 .o none (.ld 346 1 false (.t 345)) <|
 .o none (.idx 347 2 (.t 343) (.t 346)) <|
 .o none (.cc 348 1 (.t 347)) <|
 .o none (.ld 349 1 false (.t 348)) <|
 .o none (.mv 350 (.t 1)) <|
 .o none (.mv 351 (.t 5)) <|
 .o none (.idx 352 1 (.t 351) (.c (.int .i64 1))) <|
 .o none (.ld 353 1 false (.t 352)) <|
 .o none (.idx 354 2 (.t 350) (.t 353)) <|
 .o none (.cc 355 1 (.t 354)) <|
 .o none (.ld 356 1 false (.t 355)) <|
 .o none (.call (some 342) true (.c (.fn 137 [] [])) [(.t 334), (.t 341)]) <|
 .o none (.call (some 357) true (.c (.fn 137 [] [])) [(.t 349), (.t 356)]) <|
 .o none (.bs 358 1 43 [(.t 342), (.t 357)]) <|
 .o none (.mv 4 (.t 358)) .nil)) <| .ret) (.skip)))))))))) <| .seq (.rg (.o none (.mv 359 (.t 1)) <|
 .o none (.mv 360 (.t 5)) <|
 .o none (.idx 361 1 (.t 360) (.c (.int .i64 0))) <|
 .o none (.ld 362 1 false (.t 361)) <|
 .o none (.idx 363 2 (.t 359) (.t 362)) <|
 .o none (.ld 364 2 true (.t 363)) <|
 .o none (.mv 365 (.t 1)) <|
 .o none (.mv 366 (.t 5)) <|
 .o none (.idx 367 1 (.t 366) (.c (.int .i64 1))) <|
 .o none (.ld 368 1 false (.t 367)) <|
 .o none (.idx 369 2 (.t 365) (.t 368)) <|
 .o none (.ld 370 2 true (.t 369)) <|
 .o none (.mv 372 (.t 1)) <|
 .o none (.mv 373 (.t 5)) <|
 .o none (.idx 374 1 (.t 373) (.c (.int .i64 2))) <|
 .o none (.ld 375 1 false (.t 374)) <|
 .o none (.idx 376 2 (.t 372) (.t 375)) <|
 .o none (.ld 377 2 true (.t 376)) <|
 .o none (.mv 378 (.t 1)) <|
 .o none (.mv 379 (.t 5)) <|
 .o none (.idx 380 1 (.t 379) (.c (.int .i64 3))) <|
 .o none (.ld 381 1 false (.t 380)) <|
 .o none (.idx 382 2 (.t 378) (.t 381)) <|
 .o none (.ld 383 2 true (.t 382)) <|
 .o none (.cc 385 2 (.t 2)) <|
 .o none (.ld 386 3 true (.t 385)) <|
 .o none (.call (some 371) true (.c (.fn 83 [] [])) [(.t 364), (.t 370)]) <|
 .o none (.call (some 384) true (.c (.fn 83 [] [])) [(.t 377), (.t 383)]) <|
 .o none (.call (some 387) true (.c (.fn 13 [] [])) [(.t 384), (.t 386)]) <|
 .o none (.call (some 388) true (.c (.fn 137 [] [])) [(.t 371), (.t 387)]) <|
 .o none (.bs 389 1 43 [(.t 388)]) <|
 .o none (.mv 4 (.t 389)) .nil)) <| .ret⟩
theorem sD:Qe Tryz.prog Tryz.f86=some EH:=by kernel_rfl
end Go.Proofs.YtccppnepkfbpkaaGreat
namespace Go.FW
open Go
variable {fr : Fr} {hp : HP}
theorem ND{nm:Nat->Bool}{W:List (Nat×Nat)}{J F:Fr}:ia nm (bg W J F)=bg W (ia nm J) (ia nm F):=by funext s;unfold ia bg;split<;>rfl
theorem NF{nm:Nat->Bool}(h:∀x,nm x=true->2000000<=x){B:List Nat}{F:Fr}:ia nm (eK B F)=eK B F:=by
 funext s;obtain⟨h1,h2,_,_⟩:=Ad B F s;show oX nm (eK B F s)=eK B F s;unfold oX;rw[if_neg];intro hn;obtain⟨x,hx,jB⟩:=KaW.1 hn;have:=h x jB;rcases KaM.1 hx with hx|hx
 ·have:=h1 x hx;simp[j1]at this;omega
 ·have:=h2 x hx;simp[lF,j1]at this;omega
theorem aca{γ:Nat}(ah:2000000<=γ){p:PV}(h:tt p):dm γ p=p:=by
 obtain⟨h1,h2,h3,h4⟩:=h;have k1:∀β∈p.refs,β≠γ:=fun β aj e=>by have:=h1 β aj;subst e;simp[j1]at this;omega
 have k2:∀β∈p.aN,β≠γ:=fun β aj e=>by have:=h2 β aj;subst e;simp[lF,j1]at this;omega
 cases p with
 |au β o n=>first|(simp[dm,eC,k1 β (by simp[PV.refs,PV.bw])];done)|(simp[dm,eC,k2 β (by simp[PV.aN,PV.dh])];done)
 |mp β i o=>simp[dm,eC,k1 β (by simp[PV.refs,PV.bw])]
 |rb β o n=>first|(simp[dm,eC,k1 β (by simp[PV.refs,PV.bw])];done)|simp[dm,eC,k2 β (by simp[PV.aN,PV.dh])]
 |fn f a b=>simp only[dm,bx];rw[if_neg];intro hn;exact k1 γ (by simpa using hn) rfl
 |aF ba e ty xs=>exact absurd rfl (h3 ba e ty xs)
 |aK cs=>exact absurd rfl (h4 cs).1
 |dV cs=>exact absurd rfl (h4 cs).2.1
 |cO cs q=>exact absurd rfl ((h4 cs).2.2 q)
 |_=>rfl
theorem afQ{γ:Nat}{x:PV}{W:List (Nat×Nat)}{J F:Fr}{B:List Nat}(hW:lE W γ=true)(ah:2000000<=γ):xU γ x (bg W J (eK B F))=bg W (xU γ x J) (eK B F):=by
 funext s;show(if s=γ then x else dm γ (if lE W s then J s else eK B F s))=if lE W s then(if s=γ then x else dm γ (J s))else eK B F s
 by_cases e:s=γ
 ·subst e;rw[if_pos rfl,if_pos hW,if_pos rfl]
 ·rw[if_neg e,if_neg e];split
  ·rfl
  ·exact aca ah (Ad B F s)
def I3(nm:Nat->Bool)(hp:HP):HP:=fun β=>if nm β=true then none else hp β
theorem afR{nm:Nat->Bool}{β:Nat}:I3 nm hp β=if nm β=true then none else hp β:=rfl
def one(γ:Nat):Nat->Bool:=fun x=>decide (x=γ)
theorem aiS{γ x:Nat}:one γ x=decide (x=γ):=rfl
theorem afS(γ:Nat):Wk fr hp (ia (one γ) fr) (I3 (one γ) hp):=aiP (one γ)
theorem ajO{γ:Nat}(h:2000000<=γ){W:List (Nat×Nat)}{B:List Nat}{J F:Fr}:ia (one γ) (bg W J (eK B F))=bg W (ia (one γ) J) (eK B F):=by rw[ND,NF];intro x hx;have:x=γ:=of_decide_eq_true hx;omega
theorem acb{K:Qh}{e d:Nat}{k:IntKind}{x0 x1 x2:PV}{xs:List PV}:Q7 e (.sl e (x0::x1::x2::xs)) (.int k 2) d fr hp K=K (ae fr d (.pt x2.cells)) hp:=by simp[Q7]
theorem acd{K:Qh}{e d:Nat}{k:IntKind}{x0 x1 x2 x3:PV}{xs:List PV}:Q7 e (.sl e (x0::x1::x2::x3::xs)) (.int k 3) d fr hp K=K (ae fr d (.pt x3.cells)) hp:=by simp[Q7]
theorem ace{K:Qh}{e d:Nat}{k:IntKind}{x0 x1 x2 x3 x4:PV}{xs:List PV}:Q7 e (.sl e (x0::x1::x2::x3::x4::xs)) (.int k 4) d fr hp K=K (ae fr d (.pt x4.cells)) hp:=by simp[Q7]
theorem acf{K:Qh}{e d:Nat}{k:IntKind}{x0 x1 x2 x3 x4 x5:PV}{xs:List PV}:Q7 e (.sl e (x0::x1::x2::x3::x4::x5::xs)) (.int k 5) d fr hp K=K (ae fr d (.pt x5.cells)) hp:=by simp[Q7]
theorem acg{K:Qh}{e d:Nat}{k:IntKind}{x0 x1 x2 x3 x4 x5 x6:PV}{xs:List PV}:Q7 e (.sl e (x0::x1::x2::x3::x4::x5::x6::xs)) (.int k 6) d fr hp K=K (ae fr d (.pt x6.cells)) hp:=by simp[Q7]
theorem acG{K:Qh}{e d:Nat}{k:IntKind}{x0 x1 x2 x3 x4 x5 x6 x7:PV}{xs:List PV}:Q7 e (.sl e (x0::x1::x2::x3::x4::x5::x6::x7::xs)) (.int k 7) d fr hp K=K (ae fr d (.pt x7.cells)) hp:=by simp[Q7]
attribute [go_sem] afR aiS acb acd ace acf acg acG
end Go.FW
namespace Go.FW
open Go
variable {C : Ctx} {fr : Fr} {hp : HP}
abbrev WT:=List (Nat×Nat×PV)
abbrev WB:=List (Nat×Nat×Nat×HB×HB)
structure dM(Z:List (Nat×PV))(T:WT)(B:WB)(l:Nat->Bool)(fr:Fr)(hp:HP):Prop where
 z:∀e∈Z,fr e.1=e.2
 t:∀e∈T,l e.2.1=true->fr e.1=e.2.2
 a:∀e∈B,l e.2.1=true->l e.2.2.1=false->hp e.1=some e.2.2.2.1
 s:∀e∈B,l e.2.2.1=true->hp e.1=some e.2.2.2.2
variable {Z : List (Nat × PV)} {T : WT} {B : WB} {l : Nat -> Bool}
theorem dM.cK(h:dM Z T B l fr hp){s:Nat}{v:PV}(hf:Z.find? (fun e=>e.1==s)=some (s,v)):fr s=v:=h.z (s,v) (List.mem_of_find?_eq_some hf)
theorem dM.at(h:dM Z T B l fr hp){s i:Nat}{v:PV}(hf:T.find? (fun e=>e.1==s)=some (s,i,v))(hl:l i=true):fr s=v:=h.t (s,i,v) (List.mem_of_find?_eq_some hf) hl
theorem oQ{i j:Nat}(h:(j==i||l j)=true)(hn:j≠i):l j=true:=by
 rcases KbC _ _▸h with h|h
 ·exact absurd (by simpa using h) hn
 ·exact h
theorem tJ{α:Type}{p:α->Bool}{L:List α}{x e:α}(h:L.filter p=[x])(he:e∈L)(hp:p e=true):e=x:=by have:e∈L.filter p:=KcV.2 ⟨he,hp⟩;rw[h]at this;exact Kay.1 this
theorem dM.slot(h:dM Z T B l fr hp){d i:Nat}{v:PV}(c1:T.filter (fun e=>e.2.1==i)=[(d,i,v)])(c2:T.all (fun e=>e.2.1==i||e.1 !=d)=true)(c3:Z.all (fun e=>e.1 !=d)=true)(c4:B.all (fun e=>e.2.1 !=i&&e.2.2.1 !=i)=true):dM Z T B (fun k=>k==i||l k) (ae fr d v) hp:=by
 have k4:∀e∈B,e.2.1≠i/\e.2.2.1≠i:=fun e he=>by simpa using Kaq.1 c4 e he
 refine⟨fun e he=>?_,fun e he hl=>?_,fun e he h1 h2=>?_,fun e he h1=>?_⟩
 ·have:e.1≠d:=by simpa using Kaq.1 c3 e he
  simp[ae,this,h.z e he]
 ·by_cases hi:e.2.1=i
  ·have:=tJ c1 he (by simpa using hi);subst this;simp[ae]
  ·have k2:=Kaq.1 c2 e he;have:e.1≠d:=by simpa[hi]using k2
   simp[ae,this,h.t e he (oQ hl hi)]
 ·exact h.a e he (oQ h1 (k4 e he).1) (by simp at h2;exact h2.2)
 ·exact h.s e he (oQ h1 (k4 e he).2)
theorem DM{β:Nat}{p:PV}(h:p.refs.contains β=false):bx β p=p:=by unfold bx;rw[if_neg];rw[h];exact Bool.false_ne_true
theorem dM.box(h:dM Z T B l fr hp){d i st:Nat}{E F:HB}(c1:T.filter (fun e=>e.2.1==i)=[(d,i,.mp d 0 0)])(c2:T.all (fun e=>e.2.1==i||e.1 !=d&& !(e.2.2.refs.contains d))=true)(c3:Z.all (fun e=>e.1 !=d&& !(e.2.refs.contains d))=true)
  (c4:B.filter (fun e=>e.2.1==i)=[(d,i,st,E,F)]) (c5:B.all (fun e=>e.2.2.1 !=i&&(e.2.1==i||e.1 !=d))=true) (aL:l st=false):dM Z T B (fun k=>k==i||l k) (ae (bE d fr) d (.mp d 0 0)) (Ql hp d E):=by
 have k5:∀e∈B,e.2.2.1≠i/\(e.2.1=i∨e.1≠d):=fun e he=>by simpa using Kaq.1 c5 e he
 refine⟨fun e he=>?_,fun e he hl=>?_,fun e he h1 h2=>?_,fun e he h1=>?_⟩
 ·have k3:e.1≠d/\e.2.refs.contains d=false:=by have:=Kaq.1 c3 e he;rw[Kav]at this;exact⟨by simpa using this.1,by simpa using this.2⟩
  have:ae (bE d fr) d (.mp d 0 0) e.1=bx d (fr e.1):=by simp[ae,k3.1,bE]
  rw[this,h.z e he,DM k3.2]
 ·by_cases hi:e.2.1=i
  ·have:=tJ c1 he (by simpa using hi);subst this;simp[ae]
  ·have k2:=Kaq.1 c2 e he;have wH:e.1≠d/\e.2.2.refs.contains d=false:=by
    rw[KbC]at k2;rcases k2 with k2|k2
    ·exact absurd (by simpa using k2) hi
    ·rw[Kav]at k2;exact⟨by simpa using k2.1,by simpa using k2.2⟩
   have:ae (bE d fr) d (.mp d 0 0) e.1=bx d (fr e.1):=by simp[ae,wH.1,bE]
   rw[this,h.t e he (oQ hl hi),DM wH.2]
 ·by_cases hi:e.2.1=i
  ·have:=tJ c4 he (by simpa using hi);subst this;simp[Ql]
  ·have hd:e.1≠d:=(k5 e he).2.resolve_left hi;have:=h.a e he (oQ h1 hi) (by simp at h2;exact h2.2);simp[Ql,hd,this]
 ·have ie:=oQ h1 (k5 e he).1;by_cases hi:e.2.1=i
  ·have:=tJ c4 he (by simpa using hi);subst this;simp only at ie;rw[aL]at ie;cases ie
  ·have hd:e.1≠d:=(k5 e he).2.resolve_left hi;have:=h.s e he ie;simp[Ql,hd,this]
theorem dM.store(h:dM Z T B l fr hp){β i al:Nat}{E F:HB}(c1:T.all (fun e=>e.2.1 !=i)=true)(c2:B.filter (fun e=>e.2.2.1==i)=[(β,al,i,E,F)])(c3:B.all (fun e=>e.2.1 !=i&&(e.2.2.1==i||e.1 !=β))=true):dM Z T B (fun k=>k==i||l k) fr (Ql hp β F):=by
 have k3:∀e∈B,e.2.1≠i/\(e.2.2.1=i∨e.1≠β):=fun e he=>by simpa using Kaq.1 c3 e he
 refine⟨fun e he=>h.z e he,fun e he hl=>?_,fun e he h1 h2=>?_,fun e he h1=>?_⟩
 ·exact h.t e he (oQ hl (by simpa using Kaq.1 c1 e he))
 ·have hi:e.2.2.1≠i:=fun hi=>by simp[hi]at h2
  have hd:e.1≠β:=(k3 e he).2.resolve_left hi;have:=h.a e he (oQ h1 (k3 e he).1) (by simp at h2;exact h2.2);simp[Ql,hd,this]
 ·by_cases hi:e.2.2.1=i
  ·have:=tJ c2 he (by simpa using hi);subst this;simp[Ql]
  ·have hd:e.1≠β:=(k3 e he).2.resolve_left hi;have:=h.s e he (oQ h1 hi);simp[Ql,hd,this]
def KI(Z:List (Nat×PV))(T:WT)(B:WB)(l:Nat->Bool)(i:Nat):Qh:=fun fr hp=>∃aJ aw,Wk fr hp aJ aw/\dM Z T B (fun k=>k==i||l k) aJ aw
theorem dM.op(h:dM Z T B l fr hp){o:ch}{d i:Nat}{v:PV}(hv:∀K,bh C o fr hp K=K (ae fr d v) hp)(c1:T.filter (fun e=>e.2.1==i)=[(d,i,v)])(c2:T.all (fun e=>e.2.1==i||e.1 !=d)=true)(c3:Z.all (fun e=>e.1 !=d)=true)(c4:B.all (fun e=>e.2.1 !=i&&e.2.2.1 !=i)=true):hZ C none o fr hp (KI Z T B l i):=by show bh C o fr hp _;rw[hv];exact⟨_,_,Wk.refl _ _,h.slot c1 c2 c3 c4⟩
theorem dM.alloc(h:dM Z T B l fr hp){d i st n ty:Nat}{cs:List PV}{F:HB}(hz:(PV.agg cs).cells.length=n/\0<n)(c1:T.filter (fun e=>e.2.1==i)=[(d,i,.mp d 0 0)])(c2:T.all (fun e=>e.2.1==i||e.1 !=d&& !(e.2.2.refs.contains d))=true)(c3:Z.all (fun e=>e.1 !=d&& !(e.2.refs.contains d))=true)
  (c4:B.filter (fun e=>e.2.1==i)=[(d,i,st,⟨n,ty,[.agg cs],false⟩,F)]) (c5:B.all (fun e=>e.2.2.1 !=i&&(e.2.1==i||e.1 !=d))=true) (aL:l st=false):hZ C none (.alloc d n ty (.agg cs)) fr hp (KI Z T B l i):=by
 show eQ n ty (.agg cs) d fr hp _;unfold eQ;refine⟨rfl,hz.1,hz.2,_,_,Wk.refl _ _,?_⟩;rw[show(PV.agg cs).refs=[]from rfl,zp];exact h.box c1 c2 c3 c4 c5 aL
theorem dM.st(h:dM Z T B l fr hp){β a i al n ty:Nat}{z:PV}{cs:List PV}(hb:fr β= .mp β 0 0)(ha:fr a= .agg cs)(hn:(PV.agg cs).cells.length=n)(js:l al=true)(h0:l i=false)(c1:T.all (fun e=>e.2.1 !=i)=true)
  (c2:B.filter (fun e=>e.2.2.1==i)=[(β,al,i,⟨n,ty,[z],false⟩,⟨n,ty,[.agg cs],false⟩)]) (c3:B.all (fun e=>e.2.1 !=i&&(e.2.2.1==i||e.1 !=β))=true):hZ C none (.st n (.t β) (.t a)) fr hp (KI Z T B l i):=by
 have he:(β,al,i,(⟨n,ty,[z],false⟩:HB),(⟨n,ty,[.agg cs],false⟩:HB))∈B:=by
  have:(β,al,i,(⟨n,ty,[z],false⟩:HB),(⟨n,ty,[.agg cs],false⟩:HB))∈B.filter (fun e=>e.2.2.1==i):=by rw[c2];exact Kay.2 rfl
  exact(KcV.1 this).1
 have hh:=h.a _ he js h0;show nK n (fr β) (fr a) fr hp _;rw[hb,ha];unfold nK;simp only[];rw[show(PV.agg cs).refs=[]from rfl,zp,hh];refine⟨rfl,rfl,hn,by simp,by simp,_,_,Wk.refl _ _,?_⟩;have:=h.store (β:=β) (i:=i) (al:=al) c1 c2 c3;simpa[Qu,cq]using this
end Go.FW
namespace Go.FW
open Go
variable {C : Ctx} {fr : Fr} {hp : HP}
def sV:WB->Fr
 | []=>gG []
 |e::B=>ae (sV B) e.1 (.mp e.1 0 0)
def uJ:WB->HP
 | []=>aw
 |e::B=>Ql (uJ B) e.1 e.2.2.2.2
theorem Gu:∀(B:WB) {hp:HP},(∀e∈B,hp e.1=some e.2.2.2.2)->∀β,uJ B β=hp β∨uJ B β=none/\∀e∈B,e.1≠β
 | [],_,_,β=>.inr ⟨rfl,fun e he=>by cases he⟩
 | e ::B,hp,h,β=>by
  by_cases hb:β=e.1
  ·subst hb;exact .inl (by rw[h e Kbk];exact if_pos rfl)
  ·have hs:uJ (e::B) β=uJ B β:=if_neg hb;rw[hs];rcases Gu B (fun x hx=>h x (KaZ _ hx)) β with k|⟨k1,k2⟩
   ·exact .inl k
   ·exact .inr ⟨k1,fun x hx=>by
     rcases KaC.1 hx with rfl|hx
     ·exact fun e=>hb e.symm
     ·exact k2 x hx⟩
theorem Nk:∀(B:WB)(s:Nat),sV B s= .undef∨∃e∈B,s=e.1/\sV B s= .mp s 0 0
 | [],s=>.inl (by simp[sV,gG])
 | e::B,s=>by
  by_cases hb:s=e.1
  ·exact .inr ⟨e,Kbk,hb,by subst hb;exact if_pos rfl⟩
  ·have hs:sV (e::B) s=sV B s:=if_neg hb;rw[hs];rcases Nk B s with k|⟨x,hx,k1,k2⟩
   ·exact .inl k
   ·exact .inr ⟨x,KaZ _ hx,k1,k2⟩
theorem dM.fin{Z:List (Nat×PV)}{T:WT}{B:WB}{l:Nat->Bool}(h:dM Z T B l fr hp)(hs:∀e∈B,l e.2.2.1=true)(hb:∀e∈B,fr e.1= .mp e.1 0 0):Wk fr hp (sV B) (uJ B):=by
 have hh:∀e∈B,hp e.1=some e.2.2.2.2:=fun e he=>h.s e he (hs e he);refine MR (fun β=>(Gu B hh β).imp id (·.1)) fun s=>?_;rcases Nk B s with k|⟨e,he,rfl,k⟩
 ·exact .inl k
 ·refine .inr ⟨by rw[k,hb e he];rfl,fun β aj=>?_⟩;rw[hb e he]at aj;have:β=e.1:=by simpa[PV.refs,PV.aN,PV.bw]using aj
  subst this;rcases Gu B hh e.1 with k|⟨_,k⟩
  ·exact k
  ·exact absurd rfl (k e he)
theorem cu{K:Qh}{e d n:Nat}{k:IntKind}{xs:List PV}{p:PV}(h:xs[n]? =some p):Q7 e (.sl e xs) (.int k (n:Nat)) d fr hp K=K (ae fr d (.pt p.cells)) hp:=by obtain⟨hn,rfl⟩:=Kaf.1 h;unfold Q7;simp[hn]
theorem gC{K:Qh}{d:Nat}{x:PV}:bn 1 false (.pt [x]) d fr hp K=K (ae fr d x) hp:=by have:dQ false 1 0 (.agg [x])=x:=rfl;unfold bn;simp only[];rw[this];simp
theorem gD{K:Qh}{d:Nat}{x y:PV}:bn 2 true (.pt [x,y]) d fr hp K=K (ae fr d (.agg [x,y])) hp:=by have:dQ true 2 0 (.agg [x,y])= .agg [x,y]:=rfl;unfold bn;simp only[];rw[this];simp
variable {Z : List (Nat × PV)} {T : WT} {B : WB} {l : Nat -> Bool}
theorem dM.AM{P:Program}(h:dM Z T B l fr hp)(hP:C.P=P){g:FuncId}{pr:Bool}{d i:Nat}{args:List aI}{yg aQ:List PV}{r:PV}(hs:Qd P g aQ (· =r))(ha:args.map (ev fr)=yg)(cN:([]++yg++[]).map (Qu hp)=aQ)(dx:aQ.all PV.aD=true)(hr:([]++yg++[]).flatMap PV.refs=[])
  (c1:T.filter (fun e=>e.2.1==i)=[(d,i,r)]) (c2:T.all (fun e=>e.2.1==i||e.1 !=d)=true) (c3:Z.all (fun e=>e.1 !=d)=true) (c4:B.all (fun e=>e.2.1 !=i&&e.2.2.1 !=i)=true):hZ C none (.call (some d) pr (.c (.fn g [] [])) args) fr hp (KI Z T B l i):=by
 show fC C pr (.fn g [] []) (args.map (ev fr)) (some d) fr hp _;rw[ha];exact Qa hP hs cN dx hr ⟨_,_,Wk.refl _ _,h.slot c1 c2 c3 c4⟩
theorem dM.bs(h:dM Z T B l fr hp){d i j e ty:Nat}{args:List aI}{ps:List PV}(ha:args.map (ev fr)=ps)(Js:mX ps=false)(h0:0<e)(aO:z4 hp e ps)(hr:ps.flatMap PV.refs=[])(hsn:ps.map (Qu hp)=ps)(hj:l j=false)
  (c1:T.filter (fun e=>e.2.1==i)=[(d,i,.au d 0 ps.length)]) (c2:T.all (fun e=>e.2.1==i||(e.2.1==j||(e.1 !=d&& !(e.2.2.refs.contains d))))=true) (c3:Z.all (fun e=>e.1 !=d&& !(e.2.refs.contains d))=true)
  (c4:B.filter (fun e=>e.2.1==i)=[(d,i,i,⟨e,ty,ps,false⟩,⟨e,ty,ps,false⟩)]) (c5:B.all (fun e=>e.2.1==i||(e.2.2.1 !=i&&e.1 !=d))=true) (Fm:i≠j):hZ C none (.bs d e ty args) fr hp (KI Z T B l i):=by
 show kE e ty (args.map (ev fr)) d fr hp _;rw[ha];unfold kE;rw[if_neg (by rw[Js];exact Bool.false_ne_true)];refine⟨h0,aO,_,_,Wk.refl _ _,?_⟩;rw[hr,zp,hsn];have k5:∀e∈B,e.2.1=i∨(e.2.2.1≠i/\e.1≠d):=fun e he=>by
  have:=Kaq.1 c5 e he;rcases KbC _ _▸this with k|k
  ·exact .inl (by simpa using k)
  ·exact .inr (by simpa using k)
 refine⟨fun e he=>?_,fun e he hl=>?_,fun e he h1 h2=>?_,fun e he h1=>?_⟩
 ·have k3:e.1≠d/\e.2.refs.contains d=false:=by have:=Kaq.1 c3 e he;rw[Kav]at this;exact⟨by simpa using this.1,by simpa using this.2⟩
  have:ae (bE d fr) d (.ms d ps.length) e.1=bx d (fr e.1):=by simp[ae,k3.1,bE]
  rw[this,h.z e he,DM k3.2]
 ·by_cases hi:e.2.1=i
  ·have:=tJ c1 he (by simpa using hi);subst this;simp[ae]
  ·have k2:=Kaq.1 c2 e he;have rC:=oQ hl hi;have JM:e.2.1≠j:=fun hh=>by rw[hh,hj]at rC;cases rC
   have wH:e.1≠d/\e.2.2.refs.contains d=false:=by
    rw[KbC,KbC]at k2;rcases k2 with k2|k2|k2
    ·exact absurd (by simpa using k2) hi
    ·exact absurd (by simpa using k2) JM
    ·rw[Kav]at k2;exact⟨by simpa using k2.1,by simpa using k2.2⟩
   have:ae (bE d fr) d (.ms d ps.length) e.1=bx d (fr e.1):=by simp[ae,wH.1,bE]
   rw[this,h.t e he rC,DM wH.2]
 ·by_cases hi:e.2.1=i
  ·have:=tJ c4 he (by simpa using hi);subst this;simp at h2
  ·have hd:=((k5 e he).resolve_left hi).2;have:=h.a e he (oQ h1 hi) (by simp at h2;exact h2.2);simp[Ql,hd,this]
 ·by_cases hi:e.2.1=i
  ·have:=tJ c4 he (by simpa using hi);subst this;simp[Ql]
  ·have hd:=(k5 e he).resolve_left hi;have:=h.s e he (oQ h1 hd.1);simp[Ql,hd.2,this]
theorem aiT{s β n:Nat}{E:HB}(h1:fr s= .au β 0 n)(h2:hp β=some E):Wk fr hp (ae (gG []) s (.au β 0 n)) (Ql aw β E):=by
 refine MR (fun γ=>?_) fun i=>?_
 ·by_cases hb:γ=β
  ·subst hb;exact .inl (by rw[h2];exact if_pos rfl)
  ·exact .inr (by simp[Ql,hb,aw])
 ·by_cases hb:i=s
  ·subst hb;refine .inr ⟨by rw[h1];exact if_pos rfl,fun γ ah=>?_⟩;rw[h1]at ah;have:γ=β:=by simpa[PV.refs,PV.aN,PV.bw]using ah
   subst this;rw[h2];exact if_pos rfl
  ·exact .inl (by simp[ae,hb,gG])
end Go.FW
