/- A part of the walks by abstract values: no statement of its own. -/
import Derived.Test.YtdbgicaoddibdaaGreatT3
import Derived.Test.YtdbgicaoddibdaaGreatProg
import Derived.KernelRfl
set_option linter.unusedVariables false
set_option linter.unusedSimpArgs false
namespace Go.Cg
open Go.Proofs
def tb:Tab:=.node 112 ⟨3,32,some (.agg #[.string ByteArray.empty,.int .i64 0,.int .i64 0]),.agg [(0,9,1),(1,3,1),(2,3,1)] true⟩
 (.node 49 ⟨12,168,some (.agg #[.string ByteArray.empty,.int .i64 0,.int .i64 0,.slice none 0 0,.int .i64 0,.int .i64 0,.int .i64 0,.bool false,.slice none 0 0,.int .i64 0,.slice none 0 0,.slice none 0 0]),.agg [(0,9,1),(1,3,1),(2,3,1),(3,47,1),(4,40,4),(8,47,1),(9,3,1),(10,46,1),(11,48,1)] true⟩
 (.node 25 ⟨4,80,some (.agg #[.slice none 0 0,.slice none 0 0,.slice none 0 0,.int .i64 0]),.agg [(0,22,1),(1,23,1),(2,24,1),(3,3,1)] true⟩
  (.node 9 ⟨1,16,some (.string ByteArray.empty),.str⟩
  (.node 4 ⟨1,1,some (.bool false),.bool⟩
   (.node 2 ⟨1,8,some (.int .i64 0),.int .i64⟩
   (.node 1 ⟨1,8,some (.nilFunc),.scalar⟩
    (.node 0 ⟨1,0,some (.tuple #[]),.scalar⟩
    (.leaf)
    (.leaf))
    (.leaf))
   (.node 3 ⟨1,8,some (.int .i64 0),.int .i64⟩
    (.leaf)
    (.leaf)))
   (.node 7 ⟨4,24,some (.agg #[.int .i64 0,.int .i64 0,.bool false,.int .u8 0]),.agg [(0,2,1),(1,3,1),(2,4,1),(3,6,1)] true⟩
   (.node 6 ⟨1,1,some (.int .u8 0),.int .u8⟩
    (.node 5 ⟨1,1,some (.int .u8 0),.int .u8⟩
    (.leaf)
    (.leaf))
    (.leaf))
   (.node 8 ⟨4,24,some (.agg #[.int .i64 0,.int .i64 0,.bool false,.int .u8 0]),.agg [(0,2,1),(1,3,1),(2,4,1),(3,6,1)] true⟩
    (.leaf)
    (.leaf))))
  (.node 20 ⟨1,16,some (.nilIface),.scalar⟩
   (.node 12 ⟨1,8,some (.int .u64 0),.int .u64⟩
   (.node 11 ⟨1,16,some (.string ByteArray.empty),.str⟩
    (.node 10 ⟨1,16,some (.string ByteArray.empty),.str⟩
    (.leaf)
    (.leaf))
    (.leaf))
   (.node 17 ⟨1,8,some (.pointer none),.ptr 295⟩
    (.leaf)
    (.leaf)))
   (.node 23 ⟨1,24,some (.slice none 0 0),.sl 128⟩
   (.node 22 ⟨1,24,some (.slice none 0 0),.sl 43⟩
    (.node 21 ⟨1,4,some (.int .i32 0),.int .i32⟩
    (.leaf)
    (.leaf))
    (.leaf))
   (.node 24 ⟨1,24,some (.slice none 0 0),.sl 50⟩
    (.leaf)
    (.leaf)))))
  (.node 39 ⟨4,32,some (.agg #[.int .i64 0,.int .i64 0,.int .i64 0,.bool false]),.agg [(0,3,1),(1,3,1),(2,3,1),(3,4,1)] true⟩
  (.node 31 ⟨2,32,some (.agg #[.slice none 0 0,.int .i64 0]),.agg [(0,29,1),(1,3,1)] true⟩
   (.node 29 ⟨1,24,some (.slice none 0 0),.sl 47⟩
   (.node 28 ⟨1,8,some (.nilFunc),.scalar⟩
    (.node 26 ⟨4,80,some (.agg #[.slice none 0 0,.slice none 0 0,.slice none 0 0,.int .i64 0]),.agg [(0,22,1),(1,23,1),(2,24,1),(3,3,1)] true⟩
    (.leaf)
    (.leaf))
    (.leaf))
   (.node 30 ⟨2,32,some (.agg #[.slice none 0 0,.int .i64 0]),.agg [(0,29,1),(1,3,1)] true⟩
    (.leaf)
    (.leaf)))
   (.node 35 ⟨1,0,some (.tuple #[.int .i64 0,.int .i64 0]),.scalar⟩
   (.node 33 ⟨1,0,some (.tuple #[.agg #[.slice none 0 0,.int .i64 0],.int .i64 0,.int .i64 0]),.scalar⟩
    (.node 32 ⟨1,8,some (.int .i64 0),.int .i64⟩
    (.leaf)
    (.leaf))
    (.leaf))
   (.node 38 ⟨1,8,some (.nilFunc),.scalar⟩
    (.leaf)
    (.leaf))))
  (.node 44 ⟨6,48,some (.agg #[.int .i64 0,.int .i64 0,.int .i64 0,.int .i64 0,.int .i64 0,.bool false]),.agg [(0,3,1),(1,2,1),(2,40,4)] true⟩
   (.node 42 ⟨4,56,some (.agg #[.string ByteArray.empty,.int .i64 0,.int .i64 0,.slice none 0 0]),.agg [(0,9,1),(1,3,1),(2,3,1),(3,41,1)] true⟩
   (.node 41 ⟨1,24,some (.slice none 0 0),.sl 3⟩
    (.node 40 ⟨4,32,some (.agg #[.int .i64 0,.int .i64 0,.int .i64 0,.bool false]),.agg [(0,3,1),(1,3,1),(2,3,1),(3,4,1)] true⟩
    (.leaf)
    (.leaf))
    (.leaf))
   (.node 43 ⟨4,56,some (.agg #[.string ByteArray.empty,.int .i64 0,.int .i64 0,.slice none 0 0]),.agg [(0,9,1),(1,3,1),(2,3,1),(3,41,1)] true⟩
    (.leaf)
    (.leaf)))
   (.node 47 ⟨1,24,some (.slice none 0 0),.sl 40⟩
   (.node 46 ⟨1,24,some (.slice none 0 0),.sl 45⟩
    (.node 45 ⟨6,48,some (.agg #[.int .i64 0,.int .i64 0,.int .i64 0,.int .i64 0,.int .i64 0,.bool false]),.agg [(0,3,1),(1,2,1),(2,40,4)] true⟩
    (.leaf)
    (.leaf))
    (.leaf))
   (.node 48 ⟨1,24,some (.slice none 0 0),.sl 97⟩
    (.leaf)
    (.leaf))))))
 (.node 87 ⟨4,80,some (.agg #[.slice none 0 0,.slice none 0 0,.slice none 0 0,.int .i64 0]),.agg [(0,26,4)] true⟩
  (.node 68 ⟨1,8,some (.nilFunc),.scalar⟩
  (.node 61 ⟨1,8,some (.pointer none),.ptr 63⟩
   (.node 57 ⟨1,8,some (.map none),.map 3 47⟩
   (.node 53 ⟨1,8,some (.pointer none),.ptr 88⟩
    (.node 50 ⟨12,168,some (.agg #[.string ByteArray.empty,.int .i64 0,.int .i64 0,.slice none 0 0,.int .i64 0,.int .i64 0,.int .i64 0,.bool false,.slice none 0 0,.int .i64 0,.slice none 0 0,.slice none 0 0]),.agg [(0,9,1),(1,3,1),(2,3,1),(3,47,1),(4,40,4),(8,47,1),(9,3,1),(10,46,1),(11,48,1)] true⟩
    (.leaf)
    (.leaf))
    (.leaf))
   (.node 59 ⟨1,0,some (.tuple #[.slice none 0 0,.bool false]),.scalar⟩
    (.leaf)
    (.leaf)))
   (.node 66 ⟨3,24,some (.agg #[.int .i64 0,.int .i64 0,.int .i64 0]),.agg [(0,3,1),(1,3,1),(2,32,1)] true⟩
   (.node 63 ⟨1,24,some (.slice none 0 0),.sl 67⟩
    (.node 62 ⟨1,24,some (.slice none 0 0),.sl 67⟩
    (.leaf)
    (.leaf))
    (.leaf))
   (.node 67 ⟨3,24,some (.agg #[.int .i64 0,.int .i64 0,.int .i64 0]),.agg [(0,3,1),(1,3,1),(2,32,1)] true⟩
    (.leaf)
    (.leaf))))
  (.node 78 ⟨1,8,some (.nilFunc),.scalar⟩
   (.node 72 ⟨1,8,some (.nilFunc),.scalar⟩
   (.node 70 ⟨1,0,some (.tuple #[.slice none 0 0,.int .i64 0]),.scalar⟩
    (.node 69 ⟨1,24,some (.slice none 0 0),.sl 4⟩
    (.leaf)
    (.leaf))
    (.leaf))
   (.node 73 ⟨1,8,some (.nilFunc),.scalar⟩
    (.leaf)
    (.leaf)))
   (.node 83 ⟨2,16,some (.agg #[.int .i64 0,.int .i64 0]),.agg [(0,3,1),(1,3,1)] true⟩
   (.node 82 ⟨2,16,some (.agg #[.int .i64 0,.int .i64 0]),.agg [(0,3,1),(1,3,1)] true⟩
    (.node 80 ⟨1,8,some (.nilFunc),.scalar⟩
    (.leaf)
    (.leaf))
    (.leaf))
   (.node 84 ⟨1,0,some (.tuple #[.agg #[.int .i64 0,.int .i64 0],.int .i64 0]),.scalar⟩
    (.leaf)
    (.leaf)))))
  (.node 100 ⟨1,8,some (.nilFunc),.scalar⟩
  (.node 92 ⟨21,320,some (.agg #[.slice none 0 0,.slice none 0 0,.slice none 0 0,.int .i64 0,.string ByteArray.empty,.int .i64 0,.int .i64 0,.slice none 0 0,.int .i64 0,.int .i64 0,.int .i64 0,.bool false,.slice none 0 0,.int .i64 0,.slice none 0 0,.slice none 0 0,.int .i64 0,.pointer none,.slice none 0 0,.int .i64 0,.slice none 0 0]),.agg [(0,90,16),(16,3,1),(17,53,1),(18,31,2),(20,69,1)] true⟩
   (.node 90 ⟨16,248,some (.agg #[.slice none 0 0,.slice none 0 0,.slice none 0 0,.int .i64 0,.string ByteArray.empty,.int .i64 0,.int .i64 0,.slice none 0 0,.int .i64 0,.int .i64 0,.int .i64 0,.bool false,.slice none 0 0,.int .i64 0,.slice none 0 0,.slice none 0 0]),.agg [(0,26,4),(4,50,12)] true⟩
   (.node 89 ⟨16,248,some (.agg #[.slice none 0 0,.slice none 0 0,.slice none 0 0,.int .i64 0,.string ByteArray.empty,.int .i64 0,.int .i64 0,.slice none 0 0,.int .i64 0,.int .i64 0,.int .i64 0,.bool false,.slice none 0 0,.int .i64 0,.slice none 0 0,.slice none 0 0]),.agg [(0,26,4),(4,50,12)] true⟩
    (.node 88 ⟨4,80,some (.agg #[.slice none 0 0,.slice none 0 0,.slice none 0 0,.int .i64 0]),.agg [(0,26,4)] true⟩
    (.leaf)
    (.leaf))
    (.leaf))
   (.node 91 ⟨1,8,some (.pointer none),.ptr 93⟩
    (.leaf)
    (.leaf)))
   (.node 96 ⟨10,80,some (.agg #[.int .i64 0,.int .i64 0,.int .i64 0,.int .i64 0,.int .i64 0,.int .i64 0,.int .i64 0,.int .i64 0,.int .i64 0,.bool false]),.agg [(0,3,1),(1,3,1),(2,3,1),(3,3,1),(4,3,1),(5,3,1),(6,40,4)] true⟩
   (.node 95 ⟨1,8,some (.nilFunc),.scalar⟩
    (.node 93 ⟨21,320,some (.agg #[.slice none 0 0,.slice none 0 0,.slice none 0 0,.int .i64 0,.string ByteArray.empty,.int .i64 0,.int .i64 0,.slice none 0 0,.int .i64 0,.int .i64 0,.int .i64 0,.bool false,.slice none 0 0,.int .i64 0,.slice none 0 0,.slice none 0 0,.int .i64 0,.pointer none,.slice none 0 0,.int .i64 0,.slice none 0 0]),.agg [(0,90,16),(16,3,1),(17,53,1),(18,31,2),(20,69,1)] true⟩
    (.leaf)
    (.leaf))
    (.leaf))
   (.node 97 ⟨10,80,some (.agg #[.int .i64 0,.int .i64 0,.int .i64 0,.int .i64 0,.int .i64 0,.int .i64 0,.int .i64 0,.int .i64 0,.int .i64 0,.bool false]),.agg [(0,3,1),(1,3,1),(2,3,1),(3,3,1),(4,3,1),(5,3,1),(6,40,4)] true⟩
    (.leaf)
    (.leaf))))
  (.node 107 ⟨1,8,some (.pointer none),.ptr 110⟩
   (.node 105 ⟨1,8,some (.int .i64 0),.int .i64⟩
   (.node 102 ⟨1,16,some (.nilIface),.scalar⟩
    (.node 101 ⟨1,16,some (.nilIface),.scalar⟩
    (.leaf)
    (.leaf))
    (.leaf))
   (.node 106 ⟨1,0,some (.tuple #[.int .i64 0,.bool false]),.scalar⟩
    (.leaf)
    (.leaf)))
   (.node 110 ⟨24,344,some (.agg #[.slice none 0 0,.slice none 0 0,.slice none 0 0,.int .i64 0,.string ByteArray.empty,.int .i64 0,.int .i64 0,.slice none 0 0,.int .i64 0,.int .i64 0,.int .i64 0,.bool false,.slice none 0 0,.int .i64 0,.slice none 0 0,.slice none 0 0,.slice none 0 0,.int .i64 0,.int .i64 0,.int .i64 0,.int .i64 0,.int .i64 0,.bool false,.slice none 0 0]),.agg [(0,26,4),(4,50,12),(16,47,1),(17,45,6),(23,47,1)] true⟩
   (.node 109 ⟨24,344,some (.agg #[.slice none 0 0,.slice none 0 0,.slice none 0 0,.int .i64 0,.string ByteArray.empty,.int .i64 0,.int .i64 0,.slice none 0 0,.int .i64 0,.int .i64 0,.int .i64 0,.bool false,.slice none 0 0,.int .i64 0,.slice none 0 0,.slice none 0 0,.slice none 0 0,.int .i64 0,.int .i64 0,.int .i64 0,.int .i64 0,.int .i64 0,.bool false,.slice none 0 0]),.agg [(0,26,4),(4,50,12),(16,47,1),(17,45,6),(23,47,1)] true⟩
    (.leaf)
    (.leaf))
   (.node 111 ⟨1,8,some (.nilFunc),.scalar⟩
    (.leaf)
    (.leaf)))))))
 (.node 208 ⟨1,8,some (.nilFunc),.scalar⟩
 (.node 165 ⟨1,8,some (.nilFunc),.scalar⟩
  (.node 138 ⟨1,8,some (.nilFunc),.scalar⟩
  (.node 127 ⟨7,64,some (.agg #[.string ByteArray.empty,.int .i64 0,.int .i64 0,.int .i64 0,.int .i64 0,.bool false,.bool false]),.agg [(0,9,1),(1,3,1),(2,40,4),(6,4,1)] true⟩
   (.node 117 ⟨1,8,some (.nilFunc),.scalar⟩
   (.node 114 ⟨1,0,some (.tuple #[.agg #[.string ByteArray.empty,.int .i64 0,.int .i64 0],.int .i64 0]),.scalar⟩
    (.node 113 ⟨3,32,some (.agg #[.string ByteArray.empty,.int .i64 0,.int .i64 0]),.agg [(0,9,1),(1,3,1),(2,3,1)] true⟩
    (.leaf)
    (.leaf))
    (.leaf))
   (.node 118 ⟨1,0,some (.tuple #[.agg #[.int .i64 0,.int .i64 0,.int .i64 0],.bool false]),.scalar⟩
    (.leaf)
    (.leaf)))
   (.node 135 ⟨1,8,some (.int .i64 0),.int .i64⟩
   (.node 131 ⟨1,8,some (.pointer none),.ptr 50⟩
    (.node 128 ⟨7,64,some (.agg #[.string ByteArray.empty,.int .i64 0,.int .i64 0,.int .i64 0,.int .i64 0,.bool false,.bool false]),.agg [(0,9,1),(1,3,1),(2,40,4),(6,4,1)] true⟩
    (.leaf)
    (.leaf))
    (.leaf))
   (.node 136 ⟨1,0,some (.tuple #[.int .i64 0,.bool false]),.scalar⟩
    (.leaf)
    (.leaf))))
  (.node 156 ⟨1,8,some (.nilFunc),.scalar⟩
   (.node 146 ⟨1,0,some (.tuple #[.agg #[.int .i64 0,.int .i64 0,.int .i64 0,.bool false],.bool false]),.scalar⟩
   (.node 144 ⟨1,8,some (.nilFunc),.scalar⟩
    (.node 139 ⟨1,0,some (.tuple #[.bool false,.bool false]),.scalar⟩
    (.leaf)
    (.leaf))
    (.leaf))
   (.node 154 ⟨1,8,some (.nilFunc),.scalar⟩
    (.leaf)
    (.leaf)))
   (.node 163 ⟨2,16,some (.agg #[.int .i64 0,.int .i64 0]),.agg [(0,3,1),(1,3,1)] true⟩
   (.node 162 ⟨2,16,some (.agg #[.int .i64 0,.int .i64 0]),.agg [(0,3,1),(1,3,1)] true⟩
    (.node 161 ⟨1,24,some (.slice none 0 0),.sl 163⟩
    (.leaf)
    (.leaf))
    (.leaf))
   (.node 164 ⟨1,8,some (.nilFunc),.scalar⟩
    (.leaf)
    (.leaf)))))
  (.node 194 ⟨2,16,some (.agg #[.int .i64 0,.int .i64 0]),.agg [(0,3,1),(1,3,1)] true⟩
  (.node 182 ⟨1,24,some (.agg #[.slice none 0 0]),.agg [(0,41,1)] true⟩
   (.node 180 ⟨1,8,some (.pointer none),.ptr 182⟩
   (.node 169 ⟨1,8,some (.nilFunc),.scalar⟩
    (.node 168 ⟨1,8,some (.nilFunc),.scalar⟩
    (.leaf)
    (.leaf))
    (.leaf))
   (.node 181 ⟨1,24,some (.agg #[.slice none 0 0]),.agg [(0,41,1)] true⟩
    (.leaf)
    (.leaf)))
   (.node 187 ⟨1,8,some (.nilFunc),.scalar⟩
   (.node 184 ⟨5,88,some (.agg #[.pointer none,.slice none 0 0,.slice none 0 0,.slice none 0 0,.int .i64 0]),.agg [(0,180,1),(1,26,4)] true⟩
    (.node 183 ⟨5,88,some (.agg #[.pointer none,.slice none 0 0,.slice none 0 0,.slice none 0 0,.int .i64 0]),.agg [(0,180,1),(1,26,4)] true⟩
    (.leaf)
    (.leaf))
    (.leaf))
   (.node 192 ⟨1,24,some (.slice none 0 0),.sl 197⟩
    (.leaf)
    (.leaf))))
  (.node 202 ⟨1,0,some (.tuple #[.slice none 0 0,.slice none 0 0,.int .i64 0]),.scalar⟩
   (.node 197 ⟨4,32,some (.agg #[.int .i64 0,.int .i64 0,.int .i64 0,.int .i64 0]),.agg [(0,163,2),(2,195,2)] true⟩
   (.node 196 ⟨4,32,some (.agg #[.int .i64 0,.int .i64 0,.int .i64 0,.int .i64 0]),.agg [(0,163,2),(2,195,2)] true⟩
    (.node 195 ⟨2,16,some (.agg #[.int .i64 0,.int .i64 0]),.agg [(0,3,1),(1,3,1)] true⟩
    (.leaf)
    (.leaf))
    (.leaf))
   (.node 198 ⟨1,0,some (.tuple #[.agg #[.int .i64 0,.int .i64 0,.int .i64 0,.bool false],.int .i64 0]),.scalar⟩
    (.leaf)
    (.leaf)))
   (.node 206 ⟨1,8,some (.nilFunc),.scalar⟩
   (.node 205 ⟨1,8,some (.nilFunc),.scalar⟩
    (.node 203 ⟨1,8,some (.nilFunc),.scalar⟩
    (.leaf)
    (.leaf))
    (.leaf))
   (.node 207 ⟨1,8,some (.map none),.map 3 3⟩
    (.leaf)
    (.leaf))))))
 (.node 253 ⟨1,8,some (.nilFunc),.scalar⟩
  (.node 228 ⟨1,8,some (.nilFunc),.scalar⟩
  (.node 220 ⟨1,8,some (.int .u64 0),.int .u64⟩
   (.node 216 ⟨1,8,some (.nilFunc),.scalar⟩
   (.node 215 ⟨1,8,some (.nilFunc),.scalar⟩
    (.node 213 ⟨1,8,some (.nilFunc),.scalar⟩
    (.leaf)
    (.leaf))
    (.leaf))
   (.node 217 ⟨4,32,some (.agg #[.int .i64 0,.int .i64 0,.int .i64 0,.bool false]),.agg [(0,3,1),(1,3,1),(2,3,1),(3,4,1)] true⟩
    (.leaf)
    (.leaf)))
   (.node 225 ⟨1,8,some (.int .i64 0),.int .i64⟩
   (.node 224 ⟨1,8,some (.nilFunc),.scalar⟩
    (.node 223 ⟨1,8,some (.nilFunc),.scalar⟩
    (.leaf)
    (.leaf))
    (.leaf))
   (.node 226 ⟨1,0,some (.tuple #[.int .i64 0,.int .i64 0]),.scalar⟩
    (.leaf)
    (.leaf))))
  (.node 241 ⟨1,8,some (.int .u64 0),.int .u64⟩
   (.node 235 ⟨1,8,some (.int .u64 0),.int .u64⟩
   (.node 233 ⟨1,4,some (.int .u32 0),.int .u32⟩
    (.node 230 ⟨1,0,some (.tuple #[.int .i64 0,.bool false]),.scalar⟩
    (.leaf)
    (.leaf))
    (.leaf))
   (.node 239 ⟨1,8,some (.nilFunc),.scalar⟩
    (.leaf)
    (.leaf)))
   (.node 248 ⟨1,24,some (.slice none 0 0),.sl 5⟩
   (.node 245 ⟨1,8,some (.pointer none),.ptr 3⟩
    (.node 243 ⟨1,8,some (.nilFunc),.scalar⟩
    (.leaf)
    (.leaf))
    (.leaf))
   (.node 249 ⟨1,0,some (.tuple #[.slice none 0 0,.int .i64 0]),.scalar⟩
    (.leaf)
    (.leaf)))))
  (.node 280 ⟨1,0,some (.tuple #[.int .u64 0,.int .u64 0]),.scalar⟩
  (.node 271 ⟨1,8,some (.nilFunc),.scalar⟩
   (.node 265 ⟨1,8,some (.nilFunc),.scalar⟩
   (.node 257 ⟨1,0,some (.tuple #[.int .i64 0,.int .i64 0]),.scalar⟩
    (.node 256 ⟨1,8,some (.pointer none),.ptr 241⟩
    (.leaf)
    (.leaf))
    (.leaf))
   (.node 267 ⟨1,8,some (.nilFunc),.scalar⟩
    (.leaf)
    (.leaf)))
   (.node 275 ⟨1,8,some (.nilFunc),.scalar⟩
   (.node 274 ⟨5,20,some (.agg #[.int .u32 0,.int .u32 0,.int .u32 0,.int .u32 0,.int .u32 0]),.arr 5 233⟩
    (.node 272 ⟨1,0,some (.tuple #[.int .u64 0,.int .u64 0]),.scalar⟩
    (.leaf)
    (.leaf))
    (.leaf))
   (.node 278 ⟨1,0,some (.tuple #[.int .u32 0,.int .u32 0]),.scalar⟩
    (.leaf)
    (.leaf))))
  (.node 292 ⟨1,4,some (.int .i32 0),.int .i32⟩
   (.node 290 ⟨1,8,some (.nilFunc),.scalar⟩
   (.node 289 ⟨1,1,some (.int .u8 0),.int .u8⟩
    (.node 288 ⟨1,1,some (.int .u8 0),.int .u8⟩
    (.leaf)
    (.leaf))
    (.leaf))
   (.node 291 ⟨1,8,some (.pointer none),.ptr 5⟩
    (.leaf)
    (.leaf)))
   (.node 294 ⟨11,48,some (.agg #[.int .u64 0,.int .u64 0,.int .u32 0,.int .u8 0,.int .u8 0,.int .u8 0,.int .u8 0,.nilFunc,.pointer none,.int .i32 0,.int .i32 0]),.agg [(0,12,1),(1,12,1),(2,233,1),(3,288,1),(4,5,1),(5,5,1),(6,289,1),(7,290,1),(8,291,1),(9,292,1),(10,293,1)] false⟩
   (.node 293 ⟨1,4,some (.int .i32 0),.int .i32⟩
    (.leaf)
    (.leaf))
   (.node 295 ⟨11,48,some (.agg #[.int .u64 0,.int .u64 0,.int .u32 0,.int .u8 0,.int .u8 0,.int .u8 0,.int .u8 0,.nilFunc,.pointer none,.int .i32 0,.int .i32 0]),.agg [(0,12,1),(1,12,1),(2,233,1),(3,288,1),(4,5,1),(5,5,1),(6,289,1),(7,290,1),(8,291,1),(9,292,1),(10,293,1)] false⟩
    (.leaf)
    (.leaf)))))))
theorem zf:yR Tryz.prog tb:=zuR zws
end Go.Cg
