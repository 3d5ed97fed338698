/- What is known of the types. -/
import Derived.Test.YtiahcmabcbpcpaaGreatDoorProg
import Derived.Test.YtiahcmabcbpcpaaGreatDoormK4
set_option linter.unusedSimpArgs false
set_option linter.unusedVariables false
set_option maxRecDepth 100000
namespace Go.Proofs.YtiahcmabcbpcpaaGreatDoor
open Go.Tw
def cD:Nat->Option TypeDesc
 | 3=>some (.int .i64)
 | 4=>some .bool
 | 5=>some (.int .u8)
 | 9=>some .string
 | 12=>some (.int .u64)
 | 21=>some (.int .i32)
 | 22=>some (.slice 3)
 | 25=>some (.struct #[(bn "Stripe" 9 0 0),(bn "Index" 3 1 16)])
 | 26=>some (.slice 5)
 | 27=>some (.slice 9)
 | 29=>some (.struct #[(bn "ID" 25 0 0),(bn "Data" 26 2 24),(bn "Sums" 27 3 48)])
 | 33=>some (.int .i64)
 | 40=>some (.struct #[(bn "ID" 25 0 0),(bn "Size" 3 2 24),(bn "Sums" 27 3 32)])
 | 42=>some (.map 3 4)
 | 50=>some (.struct #[(bn "ID" 25 0 0),(bn "Offset" 3 2 24),(bn "Data" 26 3 32),(bn "Path" 27 4 56)])
 | 56=>some (.struct #[(bn "Kind" 3 0 0),(bn "Body" 26 1 8)])
 | 71=>some (.slice 141)
 | 72=>some (.slice 142)
 | 76=>some (.struct #[(bn "Name" 9 0 0),(bn "Stream" 9 1 16),(bn "Check" 9 2 32),(bn "Index" 9 3 48),(bn "Token" 9 4 64)])
 | 78=>some (.slice 148)
 | 84=>some (.struct #[(bI "kinkeep/transfer" "head" 40 0 0),(bI "kinkeep/transfer" "data" 26 4 56)])
 | 86=>some (.slice 26)
 | 87=>some (.slice 27)
 | 89=>some (.struct #[(Field.mk "Head" 40 0 true "" "" 0),(bI "kinkeep/transfer" "data" 86 4 56),(bI "kinkeep/transfer" "paths" 87 5 80)])
 | 91=>some (.struct #[(bI "kinkeep/transfer" "state" 89 0 0)])
 | 93=>some (.struct #[(bI "kinkeep/link" "sent" 26 0 0),(bI "kinkeep/link" "waiting" 26 1 24)])
 | 94=>some (.array 2 93)
 | 96=>some (.struct #[(bI "kinkeep/link" "ends" 94 0 0),(bI "kinkeep/link" "budget" 3 4 96),(bI "kinkeep/link" "cut" 3 5 104),(bI "kinkeep/link" "down" 4 6 112)])
 | 97=>some (.func #[46] #[56,4,33] false)
 | 100=>some (.struct #[(bI "kinkeep/frame" "buffer" 26 0 0),(bI "kinkeep/frame" "lost" 3 1 24),(bI "kinkeep/frame" "state" 97 2 32)])
 | 114=>some (.pointer 176)
 | 126=>some (.slice 50)
 | 136=>some (.struct #[(bn "Name" 9 0 0),(bn "Gen" 3 1 16),(bn "Size" 3 2 24)])
 | 139=>some (.slice 136)
 | 141=>some (.struct #[(bn "ID" 9 0 0),(bn "Vault" 3 1 16),(bn "Block" 3 2 24),(bn "Data" 3 3 32),(bn "Total" 3 4 40),(bn "Refs" 139 5 48)])
 | 142=>some (.slice 29)
 | 146=>some (.map 136 26)
 | 148=>some (.struct #[(bn "Ref" 136 0 0),(bn "Content" 26 3 32)])
 | 149=>some (.slice 139)
 | 168=>some (.struct #[(bI "kinkeep/wire" "data" 26 0 0),(bI "kinkeep/wire" "err" 33 1 24)])
 | 171=>some (.int .u64)
 | 176=>some (.struct #[(bI "kinkeep/wire" "data" 26 0 0),(bI "kinkeep/wire" "offset" 3 1 24),(bI "kinkeep/wire" "last" 3 2 32),(bI "kinkeep/wire" "err" 33 3 40)])
 | 198=>some (.struct #[(bn "Path" 9 0 0),(bn "Kind" 3 1 16),(bn "Mode" 3 2 24),(bn "Time" 3 3 32),(bn "Data" 26 4 40),(bn "Link" 9 5 64)])
 | 199=>some (.slice 198)
 | 200=>some (.slice 283)
 | 203=>some (.slice 288)
 | 205=>some (.struct #[(bn "At" 3 0 0),(bn "Files" 203 1 8)])
 | 206=>some (.slice 309)
 | 208=>some (.struct #[(bn "Index" 205 0 0),(bn "Changes" 206 2 32),(bn "New" 86 3 56),(bn "Read" 3 4 80),(bn "Kept" 3 5 88)])
 | 212=>some (.struct #[(bn "Min" 3 0 0),(bn "Max" 3 1 8),(bn "Window" 3 2 16),(bn "Bits" 3 3 24),(bn "Seed" 171 4 32)])
 | 216=>some (.map 3 3)
 | 220=>some (.int .u64)
 | 234=>some (.map 9 4)
 | 239=>some (.slice 292)
 | 242=>some (.pointer 247)
 | 243=>some (.map 9 288)
 | 247=>some (.struct #[(bI "kinkeep/scanner" "result" 208 0 0),(bI "kinkeep/scanner" "at" 3 6 96),(bI "kinkeep/scanner" "before" 243 7 104),(bI "kinkeep/scanner" "known" 234 8 112),(bI "kinkeep/scanner" "cutting" 212 9 120)])
 | 252=>some (.map 9 3)
 | 256=>some (.int .u32)
 | 257=>some (.array 8 256)
 | 258=>some (.array 64 5)
 | 260=>some (.struct #[(bI "kinkeep/sha256" "words" 257 0 0),(bI "kinkeep/sha256" "buffer" 258 8 32),(bI "kinkeep/sha256" "length" 3 72 96)])
 | 272=>some (.map 9 198)
 | 274=>some (.map 277 27)
 | 277=>some (.struct #[(bI "kinkeep/treediff" "kind" 3 0 0),(bI "kinkeep/treediff" "data" 9 1 8)])
 | 283=>some (.struct #[(bn "Kind" 3 0 0),(bn "Path" 9 1 8),(bn "From" 9 2 24),(bn "Entry" 198 3 40)])
 | 285=>some (.func #[283,283] #[3] false)
 | 286=>some (.slice 296)
 | 288=>some (.struct #[(bn "Path" 9 0 0),(bn "Kind" 3 1 16),(bn "Mode" 3 2 24),(bn "Time" 3 3 32),(bn "Size" 3 4 40),(bn "Link" 9 5 48),(bn "Parts" 286 6 64)])
 | 292=>some (.struct #[(bn "Pattern" 9 0 0),(bn "Keep" 4 1 16),(bn "Dir" 4 2 17),(bn "Rooted" 4 3 18)])
 | 296=>some (.struct #[(bn "Sum" 9 0 0),(bn "Size" 3 1 16)])
 | 298=>some (.slice 299)
 | 299=>some (.slice 341)
 | 309=>some (.struct #[(bn "Path" 9 0 0),(bn "What" 3 1 16)])
 | 312=>some (.array 64 256)
 | 315=>some (.array 2 5)
 | 317=>some (.struct #[(Field.mk "State" 260 0 true "" "" 0),(bI "kinkeep/hmac" "outer" 258 73 104)])
 | 319=>some (.struct #[(bI "kinkeep/hmac" "state" 317 0 0)])
 | 320=>some (.array 16 256)
 | 322=>some (.array 4 3)
 | 323=>some (.array 8 322)
 | 328=>some (.array 8 5)
 | 329=>some (.array 16 328)
 | 331=>some (.struct #[(bI "kinkeep/reedsolomon" "data" 3 0 0),(bI "kinkeep/reedsolomon" "rows" 329 1 8)])
 | 339=>some (.slice 368)
 | 341=>some (.struct #[(bI "kinkeep/pathname" "double" 4 0 0),(bI "kinkeep/pathname" "items" 339 1 8)])
 | 352=>some (.int .i64)
 | 366=>some (.slice 392)
 | 368=>some (.struct #[(bI "kinkeep/pathname" "star" 4 0 0),(bI "kinkeep/pathname" "any" 4 1 1),(bI "kinkeep/pathname" "negated" 4 2 2),(bI "kinkeep/pathname" "ranges" 366 3 8)])
 | 392=>some (.array 2 21)
 | 394=>some (.array 256 171)
 | 396=>some (.struct #[(bI "kinkeep/rollinghash" "table" 394 0 0),(bI "kinkeep/rollinghash" "ring" 258 256 2048),(bI "kinkeep/rollinghash" "window" 3 320 2112),(bI "kinkeep/rollinghash" "start" 3 321 2120),(bI "kinkeep/rollinghash" "length" 3 322 2128),(bI "kinkeep/rollinghash" "sum" 171 323 2136)])
 | 398=>some (.struct #[(Field.mk "Roll" 396 0 true "" "" 0),(bI "kinkeep/chunker" "cutting" 212 324 2144),(bI "kinkeep/chunker" "position" 3 329 2184),(bI "kinkeep/chunker" "last" 3 330 2192)])
 | 406=>some (.array 256 5)
 | 408=>some (.struct #[(bI "unicode/utf8" "lo" 5 0 0),(bI "unicode/utf8" "hi" 5 1 1)])
 | 409=>some (.array 16 408)
 | 417=>some (.array 16 5)
 | 418=>some (.slice 171)
 | _=>none
def cZ:Nat->Option Nat
 | 3 | 4 | 5 | 9 | 12 | 21 | 22 | 26 | 27 | 33 | 42 | 71 | 72 | 78 | 86 | 87 | 97 | 114 | 126 | 139 | 142 | 146 | 149 | 171 | 199 | 200 | 203 | 206 | 216 | 220 | 234 | 239 | 242 | 243 | 252 | 256 | 272 | 274 | 285 | 286 | 298 | 299 | 339 | 352 | 366 | 418=>some 1
 | 25 | 56 | 93 | 168 | 205 | 277 | 296 | 309 | 315 | 341 | 392 | 408=>some 2
 | 100 | 136=>some 3
 | 29 | 40 | 94 | 148 | 176 | 292 | 322 | 368=>some 4
 | 50 | 76 | 84 | 212=>some 5
 | 89 | 91 | 141 | 198 | 208=>some 6
 | 96 | 288=>some 7
 | 257 | 328=>some 8
 | 283=>some 9
 | 247=>some 14
 | 320 | 417=>some 16
 | 323 | 409=>some 32
 | 258 | 312=>some 64
 | 260=>some 73
 | 329=>some 128
 | 331=>some 129
 | 317 | 319=>some 137
 | 394 | 406=>some 256
 | 396=>some 324
 | 398=>some 331
 | _=>none
def cI:Nat->Option ZD
 | 3 | 33 | 352=>some (.t .i)
 | 4=>some (.t .bo)
 | 5=>some (.t .u8)
 | 9=>some (.t .s)
 | 12 | 171 | 220=>some (.t .u64)
 | 22=>some (.t (.sl .i))
 | 25 | 296 | 309=>some (.t (.pr .s (.pr .i .un)))
 | 26 | 299=>some (.t (.sl .u8))
 | 27=>some (.t (.sl .s))
 | 29=>some (.t (.pr (.pr .s (.pr .i .un)) (.pr (.sl .u8) (.pr (.sl .s) .un))))
 | 40=>some (.t (.pr (.pr .s (.pr .i .un)) (.pr .i (.pr (.sl .s) .un))))
 | 42 | 146 | 216 | 234 | 243 | 252 | 272 | 274=>some (.v (.map none))
 | 50=>some (.t (.pr (.pr .s (.pr .i .un)) (.pr .i (.pr (.sl .u8) (.pr (.sl .s) .un)))))
 | 56=>some (.t (.pr .i (.pr (.sl .u8) .un)))
 | 71=>some (.t (.sl (.pr .s (.pr .i (.pr .i (.pr .i (.pr .i (.pr (.sl (.pr .s (.pr .i (.pr .i .un)))) .un))))))))
 | 72=>some (.t (.sl (.sl (.pr (.pr .s (.pr .i .un)) (.pr (.sl .u8) (.pr (.sl .s) .un))))))
 | 76=>some (.t (.pr .s (.pr .s (.pr .s (.pr .s (.pr .s .un))))))
 | 78=>some (.t (.sl (.pr (.pr .s (.pr .i (.pr .i .un))) (.pr (.sl .u8) .un))))
 | 84=>some (.t (.pr (.pr (.pr .s (.pr .i .un)) (.pr .i (.pr (.sl .s) .un))) (.pr (.sl .u8) .un)))
 | 86 | 339 | 366=>some (.v (.slice none 0 0))
 | 87=>some (.t (.sl (.sl .s)))
 | 89=>some (.t (.pr (.pr (.pr .s (.pr .i .un)) (.pr .i (.pr (.sl .s) .un))) (.pr (.sl (.sl .u8)) (.pr (.sl (.sl .s)) .un))))
 | 91=>some (.t (.pr (.pr (.pr (.pr .s (.pr .i .un)) (.pr .i (.pr (.sl .s) .un))) (.pr (.sl (.sl .u8)) (.pr (.sl (.sl .s)) .un))) .un))
 | 93=>some (.pr (.v (.slice none 0 0)) (.pr (.v (.slice none 0 0)) .un))
 | 94=>some (.pr (.pr (.v (.slice none 0 0)) (.pr (.v (.slice none 0 0)) .un)) (.pr (.pr (.v (.slice none 0 0)) (.pr (.v (.slice none 0 0)) .un)) .un))
 | 96=>some (.pr (.pr (.pr (.v (.slice none 0 0)) (.pr (.v (.slice none 0 0)) .un)) (.pr (.pr (.v (.slice none 0 0)) (.pr (.v (.slice none 0 0)) .un)) .un)) (.pr (.t .i) (.pr (.t .i) (.pr (.t .bo) .un))))
 | 97 | 285=>some (.v .nilFunc)
 | 100=>some (.pr (.v (.slice none 0 0)) (.pr (.t .i) (.pr (.v .nilFunc) .un)))
 | 114 | 242=>some (.v (.pointer none))
 | 126=>some (.t (.sl (.pr (.pr .s (.pr .i .un)) (.pr .i (.pr (.sl .u8) (.pr (.sl .s) .un))))))
 | 136=>some (.t (.pr .s (.pr .i (.pr .i .un))))
 | 139=>some (.t (.sl (.pr .s (.pr .i (.pr .i .un)))))
 | 141=>some (.pr (.t .s) (.pr (.t .i) (.pr (.t .i) (.pr (.t .i) (.pr (.t .i) (.pr (.v (.slice none 0 0)) .un))))))
 | 142=>some (.t (.sl (.pr (.pr .s (.pr .i .un)) (.pr (.sl .u8) (.pr (.sl .s) .un)))))
 | 148=>some (.t (.pr (.pr .s (.pr .i (.pr .i .un))) (.pr (.sl .u8) .un)))
 | 149=>some (.t (.sl (.sl (.pr .s (.pr .i (.pr .i .un))))))
 | 168=>some (.pr (.v (.slice none 0 0)) (.pr (.t .i) .un))
 | 176=>some (.pr (.v (.slice none 0 0)) (.pr (.t .i) (.pr (.t .i) (.pr (.t .i) .un))))
 | 198=>some (.pr (.t .s) (.pr (.t .i) (.pr (.t .i) (.pr (.t .i) (.pr (.v (.slice none 0 0)) (.pr (.t .s) .un))))))
 | 199=>some (.t (.sl (.pr .s (.pr .i (.pr .i (.pr .i (.pr (.sl .u8) (.pr .s .un))))))))
 | 200=>some (.t (.sl (.pr .i (.pr .s (.pr .s (.pr (.pr .s (.pr .i (.pr .i (.pr .i (.pr (.sl .u8) (.pr .s .un)))))) .un))))))
 | 203=>some (.t (.sl (.pr .s (.pr .i (.pr .i (.pr .i (.pr .i (.pr .s (.pr (.sl (.pr .s (.pr .i .un))) .un)))))))))
 | 205=>some (.pr (.t .i) (.pr (.v (.slice none 0 0)) .un))
 | 206 | 286=>some (.t (.sl (.pr .s (.pr .i .un))))
 | 208=>some (.pr (.pr (.t .i) (.pr (.v (.slice none 0 0)) .un)) (.pr (.v (.slice none 0 0)) (.pr (.v (.slice none 0 0)) (.pr (.t .i) (.pr (.t .i) .un)))))
 | 212=>some (.t (.pr .i (.pr .i (.pr .i (.pr .i (.pr .u64 .un))))))
 | 239=>some (.t (.sl (.pr .s (.pr .bo (.pr .bo (.pr .bo .un))))))
 | 247=>some (.pr (.pr (.pr (.t .i) (.pr (.v (.slice none 0 0)) .un)) (.pr (.v (.slice none 0 0)) (.pr (.v (.slice none 0 0)) (.pr (.t .i) (.pr (.t .i) .un))))) (.pr (.t .i) (.pr (.v (.map none)) (.pr (.v (.map none)) (.pr (.t (.pr .i (.pr .i (.pr .i (.pr .i (.pr .u64 .un)))))) .un)))))
 | 256=>some (.t .u32)
 | 257=>some (.t (.ar 8 .u32))
 | 258=>some (.t (.ar 64 .u8))
 | 260=>some (.t (.pr (.ar 8 .u32) (.pr (.ar 64 .u8) (.pr .i .un))))
 | 277=>some (.t (.pr .i (.pr .s .un)))
 | 283=>some (.pr (.t .i) (.pr (.t .s) (.pr (.t .s) (.pr (.pr (.t .s) (.pr (.t .i) (.pr (.t .i) (.pr (.t .i) (.pr (.v (.slice none 0 0)) (.pr (.t .s) .un)))))) .un))))
 | 288=>some (.pr (.t .s) (.pr (.t .i) (.pr (.t .i) (.pr (.t .i) (.pr (.t .i) (.pr (.t .s) (.pr (.v (.slice none 0 0)) .un)))))))
 | 292=>some (.t (.pr .s (.pr .bo (.pr .bo (.pr .bo .un)))))
 | 298=>some (.t (.sl (.sl .u8)))
 | 312=>some (.t (.ar 64 .u32))
 | 315=>some (.t (.ar 2 .u8))
 | 317=>some (.t (.pr (.pr (.ar 8 .u32) (.pr (.ar 64 .u8) (.pr .i .un))) (.pr (.ar 64 .u8) .un)))
 | 319=>some (.t (.pr (.pr (.pr (.ar 8 .u32) (.pr (.ar 64 .u8) (.pr .i .un))) (.pr (.ar 64 .u8) .un)) .un))
 | 320=>some (.t (.ar 16 .u32))
 | 322=>some (.t (.ar 4 .i))
 | 323=>some (.t (.ar 8 (.ar 4 .i)))
 | 328=>some (.t (.ar 8 .u8))
 | 329=>some (.t (.ar 16 (.ar 8 .u8)))
 | 331=>some (.t (.pr .i (.pr (.ar 16 (.ar 8 .u8)) .un)))
 | 341=>some (.pr (.t .bo) (.pr (.v (.slice none 0 0)) .un))
 | 368=>some (.pr (.t .bo) (.pr (.t .bo) (.pr (.t .bo) (.pr (.v (.slice none 0 0)) .un))))
 | 394=>some (.t (.ar 256 .u64))
 | 396=>some (.t (.pr (.ar 256 .u64) (.pr (.ar 64 .u8) (.pr .i (.pr .i (.pr .i (.pr .u64 .un)))))))
 | 398=>some (.t (.pr (.pr (.ar 256 .u64) (.pr (.ar 64 .u8) (.pr .i (.pr .i (.pr .i (.pr .u64 .un)))))) (.pr (.pr .i (.pr .i (.pr .i (.pr .i (.pr .u64 .un))))) (.pr .i (.pr .i .un)))))
 | 406=>some (.t (.ar 256 .u8))
 | 408=>some (.t (.pr .u8 (.pr .u8 .un)))
 | 409=>some (.t (.ar 16 (.pr .u8 (.pr .u8 .un))))
 | 417=>some (.t (.ar 16 .u8))
 | 418=>some (.t (.sl .u64))
 | _=>none
def cE:Nat->Option Ty
 | 3=>some .i
 | 5=>some .u8
 | 9=>some .s
 | 26 | 299=>some (.sl .u8)
 | 27=>some (.sl .s)
 | 29=>some (.pr (.pr .s (.pr .i .un)) (.pr (.sl .u8) (.pr (.sl .s) .un)))
 | 50=>some (.pr (.pr .s (.pr .i .un)) (.pr .i (.pr (.sl .u8) (.pr (.sl .s) .un))))
 | 136=>some (.pr .s (.pr .i (.pr .i .un)))
 | 139=>some (.sl (.pr .s (.pr .i (.pr .i .un))))
 | 141=>some (.pr .s (.pr .i (.pr .i (.pr .i (.pr .i (.pr (.sl (.pr .s (.pr .i (.pr .i .un)))) .un))))))
 | 142=>some (.sl (.pr (.pr .s (.pr .i .un)) (.pr (.sl .u8) (.pr (.sl .s) .un))))
 | 148=>some (.pr (.pr .s (.pr .i (.pr .i .un))) (.pr (.sl .u8) .un))
 | 171=>some .u64
 | 198=>some (.pr .s (.pr .i (.pr .i (.pr .i (.pr (.sl .u8) (.pr .s .un))))))
 | 283=>some (.pr .i (.pr .s (.pr .s (.pr (.pr .s (.pr .i (.pr .i (.pr .i (.pr (.sl .u8) (.pr .s .un)))))) .un))))
 | 288=>some (.pr .s (.pr .i (.pr .i (.pr .i (.pr .i (.pr .s (.pr (.sl (.pr .s (.pr .i .un))) .un)))))))
 | 292=>some (.pr .s (.pr .bo (.pr .bo (.pr .bo .un))))
 | 296 | 309=>some (.pr .s (.pr .i .un))
 | _=>none
def cB:Nat->Nat
 | 5=>1
 | 3 | 171=>8
 | 9=>16
 | 26 | 27 | 139 | 142 | 292 | 296 | 299 | 309=>24
 | 136=>32
 | 148=>56
 | 29 | 141=>72
 | 50 | 198=>80
 | 288=>88
 | 283=>120
 | _=>0
def uE:Vector UInt32 8:=#v[1779033703,3144134277,1013904242,2773480762,1359893119,2600822924,528734635,1541459225]
def iD:Vector UInt32 64:=#v[1116352408,1899447441,3049323471,3921009573,961987163,1508970993,2453635748,2870763221,3624381080,310598401,607225278,1426881987,1925078388,2162078206,2614888103,3248222580,3835390401,4022224774,264347078,604807628,770255983,1249150122,1555081692,1996064986,2554220882,2821834349,2952996808,3210313671,3336571891,3584528711,113926993,338241895,666307205,773529912,1294757372,1396182291,1695183700,1986661051,2177026350,2456956037,2730485921,2820302411,3259730800,3345764771,3516065817,3600352804,4094571909,275423344,430227734,506948616,659060556,883997877,958139571,1322822218,1537002063,1747873779,1955562222,2024104815,2227730452,2361852424,2428436474,2756734187,3204031479,3329325298]
def tw:Vector UInt8 2:=#v[54,92]
def gv6:Vector UInt8 64:=#v[0,1,56,2,57,49,28,3,61,58,42,50,38,29,17,4,62,47,59,36,45,43,51,22,53,39,33,30,24,18,12,5,63,55,48,27,60,41,37,16,46,35,44,21,52,32,23,11,54,26,40,15,34,20,31,10,25,14,19,9,13,8,7,6]
def cG:Nat->Option ((t:Ty)×t.den)
 | 0=>some ⟨(.ar 8 .u32),(uE:Ty.den (.ar 8 .u32))⟩
 | 1=>some ⟨(.ar 64 .u32),(iD:Ty.den (.ar 64 .u32))⟩
 | 2=>some ⟨(.ar 2 .u8),(tw:Ty.den (.ar 2 .u8))⟩
 | 6=>some ⟨(.ar 64 .u8),(gv6:Ty.den (.ar 64 .u8))⟩
 | _=>none
def cV:Nat->Bool
 | _=>false
def cW:Nat->Bool:=fun _=>false
def cM:Nat->Option (Ty×Ty)
 | 42=>some (.i,.bo)
 | 146=>some ((.pr .s (.pr .i (.pr .i .un))),(.sl .u8))
 | 216=>some (.i,.i)
 | 234=>some (.s,.bo)
 | 243=>some (.s,(.pr .s (.pr .i (.pr .i (.pr .i (.pr .i (.pr .s (.pr (.sl (.pr .s (.pr .i .un))) .un))))))))
 | 252=>some (.s,.i)
 | 272=>some (.s,(.pr .s (.pr .i (.pr .i (.pr .i (.pr (.sl .u8) (.pr .s .un)))))))
 | 274=>some ((.pr .i (.pr .s .un)),(.sl .s))
 | _=>none
def cN:Nat->Option (List UInt8->UInt8->Int)
 | 261=>some TP
 | 272=>some Lib.indexByte
 | _=>none
theorem Tj:∀ f g,cN f=some g->∀ (s:List UInt8) (b:UInt8) w,(callFunc f #[vS s,di b]).run Tryz.prog w=.ok (.value (vI (g s b))) w:=by
 intro f g h
 unfold cN at h
 split at h<;>first | (cases h;done) | skip
 ·cases h;exact aq5 Tryz.func261 (by kernel_rfl) (by kernel_rfl) (by kernel_rfl) (by kernel_rfl)
 ·cases h;exact ahO Tryz.func272 (by kernel_rfl) (by kernel_rfl) (by kernel_rfl) (by kernel_rfl)
def cQ:Nat->Bool
 | 25 | 76 | 136 | 212 | 277 | 292 | 296 | 309 | 408=>true
 | _=>false
def cfg:aF:=⟨cD,cZ,fun t=>match cI t with | some d=>some d.iv | none=>none,cE,cG,cQ,cV,cW,cM,fun _=>none,cN⟩
theorem tok:jL Tryz.prog cD cZ:=⟨fun t d h=>by
 unfold cD at h
 split at h<;>first | (cases h;done) | skip
 all_goals cases h
 all_goals kernel_rfl
 , fun t n h=>by
 unfold cZ at h
 split at h<;>first | (cases h;done) | skip
 all_goals cases h
 all_goals exact fun w=>by kernel_rfl
⟩
theorem Mn:∀ t v,cfg.I t=some v->∃ z cs,(∀ w,(zeroValue t).run Tryz.prog w=.ok z w)∧z.cells=cs.toArray∧∀ O ρ,R O ρ false v cs:=by
 intro t v h
 simp only [cfg] at h
 split at h<;>first | (cases h;done) | skip
 rename_i d hd
 cases h
 unfold cI at hd
 split at hd<;>first | (cases hd;done) | skip
 all_goals cases hd
 all_goals exact agV cD (fun w=>by kernel_rfl) (by kernel_rfl) rfl
theorem Ov:∀ t e ty,cfg.D t=some (.slice e)->cfg.E e=some ty->∃ bytes z zc,iG Tryz.prog t e ty.size bytes z∧bytes≤128∧z.cells=zc.toArray∧∀ O,TR O ty ty.zero zc:=by
 intro t e ty h k
 have h:cD t=some (.slice e):=h
 have k:cE e=some ty:=k
 unfold cD at h
 split at h<;>first | (cases h;done) | skip
 all_goals (cases h;first | (cases k;done) | (cases k;exact Vt cD cB (by kernel_rfl) (by kernel_rfl) (by kernel_rfl) (by decide) (by decide) (by kernel_rfl)))
theorem RF:∀ t fs,cfg.D t=some (.struct fs)->∃ pl:Array (Nat×Nat),(∀ w,(fs.mapM (m:=Sem) fun f=>do pure (f.offset,← sizeOf f.type)).run Tryz.prog w=.ok pl w)∧∀ (i:Nat) (f:Field),fs[i]? = some f->∃ z,pl[i]? = some (f.offset,z)∧cfg.Z f.type=some z:=by
 intro t fs h
 have h:cD t=some (.struct fs):=h
 unfold cD at h
 split at h<;>first | (cases h;done) | skip
 all_goals cases h
 all_goals exact ahS (fun w=>by kernel_rfl) (by kernel_rfl)
theorem SA:∀ t fs,cfg.D t=some (.struct fs)->cfg.Q t=true->Tryz.prog.stoodInHeld t=false∧Tryz.prog.eqGuardType Tryz.prog.depth t=false∧∀ f ∈ fs.toList,f.name ≠ "_" := by
 intro t fs h k
 have h:cD t=some (.struct fs):=h
 have k:cQ t=true:=k
 unfold cD at h
 split at h<;>first | (cases h;done) | skip
 all_goals cases h
 all_goals first | exact absurd k (by decide) | exact ⟨by kernel_rfl,by kernel_rfl,O7 (by kernel_rfl)⟩
theorem P8:∀ t kt vt,cfg.M t=some (kt,vt)->∃ k e z,Tryz.prog.underlying t=some (.map k e)∧w9 Tryz.prog k kt∧(∀ w,(zeroValue e).run Tryz.prog w=.ok z w)∧∀ O,VR O vt vt.zero z:=by
 intro t kt vt h
 have h:cM t=some (kt,vt):=h
 unfold cM at h
 split at h<;>first | (cases h;done) | skip
 ·cases h;exact ⟨3,4,(.bool false),Tryz.underlying42,yR Tryz.underlying3 rfl,fun w=>by kernel_rfl,zm rfl⟩
 ·cases h;exact ⟨136,26,(.slice none 0 0),Tryz.underlying146,aa9 (c:=⟨cD,cZ,fun _=>none,fun _=>none,fun _=>none,fun _=>false,fun _=>false,fun _=>false,fun _=>none,fun _=>none,fun _=>none⟩) (fs:=#[(bn "Name" 9 0 0),(bn "Gen" 3 1 16),(bn "Size" 3 2 24)]) tok rfl (by kernel_rfl) (O7 (by kernel_rfl)) (by kernel_rfl) rfl,fun w=>by kernel_rfl,zm rfl⟩
 ·cases h;exact ⟨3,3,(.int .i64 0),Tryz.underlying216,yR Tryz.underlying3 rfl,fun w=>by kernel_rfl,zm rfl⟩
 ·cases h;exact ⟨9,4,(.bool false),Tryz.underlying234,yR Tryz.underlying9 rfl,fun w=>by kernel_rfl,zm rfl⟩
 ·cases h;exact ⟨9,288,(.agg #[(.string ⟨#[]⟩),(.int .i64 0),(.int .i64 0),(.int .i64 0),(.int .i64 0),(.string ⟨#[]⟩),(.slice none 0 0)]),Tryz.underlying243,yR Tryz.underlying9 rfl,fun w=>by kernel_rfl,fun O=>⟨_,rfl,J2 (.pr .s (.pr .i (.pr .i (.pr .i (.pr .i (.pr .s (.pr (.sl (.pr .s (.pr .i .un))) .un)))))))⟩⟩
 ·cases h;exact ⟨9,3,(.int .i64 0),Tryz.underlying252,yR Tryz.underlying9 rfl,fun w=>by kernel_rfl,zm rfl⟩
 ·cases h;exact ⟨9,198,(.agg #[(.string ⟨#[]⟩),(.int .i64 0),(.int .i64 0),(.int .i64 0),(.slice none 0 0),(.string ⟨#[]⟩)]),Tryz.underlying272,yR Tryz.underlying9 rfl,fun w=>by kernel_rfl,fun O=>⟨_,rfl,J2 (.pr .s (.pr .i (.pr .i (.pr .i (.pr (.sl .u8) (.pr .s .un))))))⟩⟩
 ·cases h;exact ⟨277,27,(.slice none 0 0),Tryz.underlying274,aa9 (c:=⟨cD,cZ,fun _=>none,fun _=>none,fun _=>none,fun _=>false,fun _=>false,fun _=>false,fun _=>none,fun _=>none,fun _=>none⟩) (fs:=#[(bI "kinkeep/treediff" "kind" 3 0 0),(bI "kinkeep/treediff" "data" 9 1 8)]) tok rfl (by kernel_rfl) (O7 (by kernel_rfl)) (by kernel_rfl) rfl,fun w=>by kernel_rfl,zm rfl⟩
theorem iY:aN Tryz.prog cfg:=⟨tok,Mn,Ov,RF,SA,(fun _ _ _ h=>by cases h),P8,(fun _ _ _ _ h=>by cases h),Tj⟩
def cR:Nat->Option (Nat×Ty)
 | 26=>some (5,.u8)
 | 139=>some (136,(.pr .s (.pr .i (.pr .i .un))))
 | _=>none
def C5:aF:=⟨cD,cZ,fun t=>match cI t with | some d=>some d.iv | none=>none,cE,cG,cQ,cV,cW,cM,cR,cN⟩
theorem ah6:∀ t e p,C5.D t=some (.slice e)->C5.R e=some p->∃ bytes,iG Tryz.prog t e 1 bytes (.slice none 0 0)∧bytes≤128:=by
 intro t e p h k
 have h:cD t=some (.slice e):=h
 have k:cR e=some p:=k
 unfold cD at h
 split at h<;>first | (cases h;done) | skip
 all_goals (cases h;first | (cases k;done) | exact ⟨24,Wt (by kernel_rfl) (by kernel_rfl) (by kernel_rfl) (by decide),by decide⟩)
theorem ag1:aN Tryz.prog C5:=⟨tok,Mn,Ov,RF,SA,(fun _ _ _ h=>by cases h),P8,ah6,Tj⟩
def WA:Nat->Option Ty
 | 3=>some .i
 | 5=>some .u8
 | 9=>some .s
 | 26=>some (.sn .u8)
 | 27=>some (.sl .s)
 | 29=>some (.pr (.pr .s (.pr .i .un)) (.pr (.sl .u8) (.pr (.sl .s) .un)))
 | 50=>some (.pr (.pr .s (.pr .i .un)) (.pr .i (.pr (.sl .u8) (.pr (.sl .s) .un))))
 | 136=>some (.pr .s (.pr .i (.pr .i .un)))
 | 139=>some (.sl (.pr .s (.pr .i (.pr .i .un))))
 | 141=>some (.pr .s (.pr .i (.pr .i (.pr .i (.pr .i (.pr (.sl (.pr .s (.pr .i (.pr .i .un)))) .un))))))
 | 142=>some (.sl (.pr (.pr .s (.pr .i .un)) (.pr (.sl .u8) (.pr (.sl .s) .un))))
 | 148=>some (.pr (.pr .s (.pr .i (.pr .i .un))) (.pr (.sl .u8) .un))
 | 171=>some .u64
 | 198=>some (.pr .s (.pr .i (.pr .i (.pr .i (.pr (.sn .u8) (.pr .s .un))))))
 | 283=>some (.pr .i (.pr .s (.pr .s (.pr (.pr .s (.pr .i (.pr .i (.pr .i (.pr (.sn .u8) (.pr .s .un)))))) .un))))
 | 288=>some (.pr .s (.pr .i (.pr .i (.pr .i (.pr .i (.pr .s (.pr (.sn (.pr .s (.pr .i .un))) .un)))))))
 | 292=>some (.pr .s (.pr .bo (.pr .bo (.pr .bo .un))))
 | 296 | 309=>some (.pr .s (.pr .i .un))
 | 299=>some (.sl .u8)
 | _=>none
def nM:aF:=⟨cD,cZ,fun t=>match cI t with | some d=>some d.iv | none=>none,WA,cG,cQ,cV,cW,cM,fun _=>none,cN⟩
theorem aq3:∀ t e ty,nM.D t=some (.slice e)->nM.E e=some ty->∃ bytes z zc,iG Tryz.prog t e ty.size bytes z∧bytes≤128∧z.cells=zc.toArray∧∀ O,TR O ty ty.zero zc:=by
 intro t e ty h k
 have h:cD t=some (.slice e):=h
 have k:WA e=some ty:=k
 unfold cD at h
 split at h<;>first | (cases h;done) | skip
 all_goals (cases h;first | (cases k;done) | (cases k;exact Vt cD cB (by kernel_rfl) (by kernel_rfl) (by kernel_rfl) (by decide) (by decide) (by kernel_rfl)))
theorem r8:aN Tryz.prog nM:=⟨tok,Mn,aq3,RF,SA,(fun _ _ _ h=>by cases h),P8,(fun _ _ _ _ h=>by cases h),Tj⟩
theorem mixed:Tryz.prog.follows .mixedOrders=true:=by kernel_rfl
abbrev BN:Type 1:=Bn Tryz.prog cfg
abbrev LB (E:Ev) (m:Nat) (f:Func):Type 1:=Lb Tryz.prog E m (cC f)
abbrev R8 (c:aF) (n:Nat) (l:List BN) (o:Nat->List (Tag×Nat)) (al:Nat->Option Nat) (ms:Nat->Option (List hU)):Ev:=ev c n l o al ms
theorem st:qH Tryz.prog cfg:=⟨iY,mixed⟩
abbrev ev (n:Nat) (l:List BN) (o:Nat->List (Tag×Nat)):Ev:=Tw.ev cfg n l o (fun _=>none) (fun _=>none)
theorem vX:qH Tryz.prog C5:=⟨ag1,mixed⟩
abbrev rW (n:Nat) (l:List BN) (o:Nat->List (Tag×Nat)):Ev:=Tw.ev C5 n l o (fun _=>none) (fun _=>none)
theorem stS:qH Tryz.prog nM:=⟨r8,mixed⟩
end Go.Proofs.YtiahcmabcbpcpaaGreatDoor
