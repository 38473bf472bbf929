/- A part of the walks by abstract values: no statement of its own. -/
import Derived.Test.YtemhfmmhkimhmaaGreatI3
import Derived.Test.YtemhfmmhkimhmaaGreatProg
import Derived.KernelRfl
set_option linter.unusedVariables false
set_option linter.unusedSimpArgs false
namespace Go.Cg
open Go.Proofs
def tb:Tab:=.node 116 ⟨1,8,some (.nilFunc),.scalar⟩
 (.node 52 ⟨1,8,some (.nilFunc),.scalar⟩
 (.node 24 ⟨1,24,some (.slice none 0 0),.sl 36⟩
  (.node 9 ⟨1,16,some (.string ByteArray.empty),.str⟩
  (.node 4 ⟨1,1,some (.bool false),.bool⟩
   (.node 2 ⟨1,8,some (.int .i64 0),.int .i64⟩
   (.node 1 ⟨1,8,some (.nilFunc),.scalar⟩
    (.node 0 ⟨1,0,some (.tuple #[]),.scalar⟩
    (.leaf)
    (.leaf))
    (.leaf))
   (.node 3 ⟨1,8,some (.int .i64 0),.int .i64⟩
    (.leaf)
    (.leaf)))
   (.node 7 ⟨4,24,some (.agg #[.int .i64 0,.int .i64 0,.bool false,.int .u8 0]),.agg [(0,2,1),(1,3,1),(2,4,1),(3,6,1)] true⟩
   (.node 6 ⟨1,1,some (.int .u8 0),.int .u8⟩
    (.node 5 ⟨1,1,some (.int .u8 0),.int .u8⟩
    (.leaf)
    (.leaf))
    (.leaf))
   (.node 8 ⟨4,24,some (.agg #[.int .i64 0,.int .i64 0,.bool false,.int .u8 0]),.agg [(0,2,1),(1,3,1),(2,4,1),(3,6,1)] true⟩
    (.leaf)
    (.leaf))))
  (.node 17 ⟨1,8,some (.pointer none),.ptr 286⟩
   (.node 12 ⟨1,8,some (.int .u64 0),.int .u64⟩
   (.node 11 ⟨1,16,some (.string ByteArray.empty),.str⟩
    (.node 10 ⟨1,16,some (.string ByteArray.empty),.str⟩
    (.leaf)
    (.leaf))
    (.leaf))
   (.node 16 ⟨1,8,some (.pointer none),.ptr 277⟩
    (.leaf)
    (.leaf)))
   (.node 22 ⟨1,24,some (.slice none 0 0),.sl 55⟩
   (.node 21 ⟨1,4,some (.int .i32 0),.int .i32⟩
    (.node 20 ⟨1,16,some (.nilIface),.scalar⟩
    (.leaf)
    (.leaf))
    (.leaf))
   (.node 23 ⟨1,24,some (.slice none 0 0),.sl 82⟩
    (.leaf)
    (.leaf)))))
  (.node 37 ⟨1,24,some (.slice none 0 0),.sl 30⟩
  (.node 32 ⟨4,32,some (.agg #[.int .i64 0,.int .i64 0,.int .i64 0,.bool false]),.agg [(0,3,1),(1,3,1),(2,3,1),(3,4,1)] true⟩
   (.node 30 ⟨1,24,some (.slice none 0 0),.sl 32⟩
   (.node 26 ⟨4,80,some (.agg #[.slice none 0 0,.slice none 0 0,.slice none 0 0,.int .i64 0]),.agg [(0,22,1),(1,23,1),(2,24,1),(3,3,1)] true⟩
    (.node 25 ⟨4,80,some (.agg #[.slice none 0 0,.slice none 0 0,.slice none 0 0,.int .i64 0]),.agg [(0,22,1),(1,23,1),(2,24,1),(3,3,1)] true⟩
    (.leaf)
    (.leaf))
    (.leaf))
   (.node 31 ⟨4,32,some (.agg #[.int .i64 0,.int .i64 0,.int .i64 0,.bool false]),.agg [(0,3,1),(1,3,1),(2,3,1),(3,4,1)] true⟩
    (.leaf)
    (.leaf)))
   (.node 35 ⟨12,168,some (.agg #[.string ByteArray.empty,.int .i64 0,.int .i64 0,.slice none 0 0,.int .i64 0,.int .i64 0,.int .i64 0,.bool false,.slice none 0 0,.int .i64 0,.slice none 0 0,.slice none 0 0]),.agg [(0,9,1),(1,3,1),(2,3,1),(3,30,1),(4,32,4),(8,30,1),(9,3,1),(10,33,1),(11,34,1)] true⟩
   (.node 34 ⟨1,24,some (.slice none 0 0),.sl 90⟩
    (.node 33 ⟨1,24,some (.slice none 0 0),.sl 45⟩
    (.leaf)
    (.leaf))
    (.leaf))
   (.node 36 ⟨12,168,some (.agg #[.string ByteArray.empty,.int .i64 0,.int .i64 0,.slice none 0 0,.int .i64 0,.int .i64 0,.int .i64 0,.bool false,.slice none 0 0,.int .i64 0,.slice none 0 0,.slice none 0 0]),.agg [(0,9,1),(1,3,1),(2,3,1),(3,30,1),(4,32,4),(8,30,1),(9,3,1),(10,33,1),(11,34,1)] true⟩
    (.leaf)
    (.leaf))))
  (.node 44 ⟨6,48,some (.agg #[.int .i64 0,.int .i64 0,.int .i64 0,.int .i64 0,.int .i64 0,.bool false]),.agg [(0,3,1),(1,2,1),(2,32,4)] true⟩
   (.node 40 ⟨1,8,some (.int .i64 0),.int .i64⟩
   (.node 39 ⟨2,32,some (.agg #[.slice none 0 0,.int .i64 0]),.agg [(0,37,1),(1,3,1)] true⟩
    (.node 38 ⟨2,32,some (.agg #[.slice none 0 0,.int .i64 0]),.agg [(0,37,1),(1,3,1)] true⟩
    (.leaf)
    (.leaf))
    (.leaf))
   (.node 41 ⟨1,0,some (.tuple #[.agg #[.slice none 0 0,.int .i64 0],.int .i64 0,.int .i64 0]),.scalar⟩
    (.leaf)
    (.leaf)))
   (.node 49 ⟨1,8,some (.nilFunc),.scalar⟩
   (.node 45 ⟨6,48,some (.agg #[.int .i64 0,.int .i64 0,.int .i64 0,.int .i64 0,.int .i64 0,.bool false]),.agg [(0,3,1),(1,2,1),(2,32,4)] true⟩
    (.leaf)
    (.leaf))
   (.node 50 ⟨1,8,some (.pointer none),.ptr 63⟩
    (.leaf)
    (.leaf))))))
 (.node 81 ⟨7,64,some (.agg #[.string ByteArray.empty,.int .i64 0,.int .i64 0,.int .i64 0,.int .i64 0,.bool false,.bool false]),.agg [(0,9,1),(1,3,1),(2,32,4),(6,4,1)] true⟩
  (.node 64 ⟨16,248,some (.agg #[.slice none 0 0,.slice none 0 0,.slice none 0 0,.int .i64 0,.string ByteArray.empty,.int .i64 0,.int .i64 0,.slice none 0 0,.int .i64 0,.int .i64 0,.int .i64 0,.bool false,.slice none 0 0,.int .i64 0,.slice none 0 0,.slice none 0 0]),.agg [(0,26,4),(4,36,12)] true⟩
  (.node 57 ⟨2,16,some (.agg #[.int .i64 0,.int .i64 0]),.agg [(0,3,1),(1,3,1)] true⟩
   (.node 55 ⟨4,56,some (.agg #[.string ByteArray.empty,.int .i64 0,.int .i64 0,.slice none 0 0]),.agg [(0,9,1),(1,3,1),(2,3,1),(3,53,1)] true⟩
   (.node 54 ⟨4,56,some (.agg #[.string ByteArray.empty,.int .i64 0,.int .i64 0,.slice none 0 0]),.agg [(0,9,1),(1,3,1),(2,3,1),(3,53,1)] true⟩
    (.node 53 ⟨1,24,some (.slice none 0 0),.sl 3⟩
    (.leaf)
    (.leaf))
    (.leaf))
   (.node 56 ⟨2,16,some (.agg #[.int .i64 0,.int .i64 0]),.agg [(0,3,1),(1,3,1)] true⟩
    (.leaf)
    (.leaf)))
   (.node 62 ⟨4,80,some (.agg #[.slice none 0 0,.slice none 0 0,.slice none 0 0,.int .i64 0]),.agg [(0,26,4)] true⟩
   (.node 60 ⟨1,0,some (.tuple #[.agg #[.int .i64 0,.int .i64 0],.int .i64 0]),.scalar⟩
    (.node 58 ⟨1,0,some (.tuple #[.agg #[.int .i64 0,.int .i64 0],.int .i64 0]),.scalar⟩
    (.leaf)
    (.leaf))
    (.leaf))
   (.node 63 ⟨4,80,some (.agg #[.slice none 0 0,.slice none 0 0,.slice none 0 0,.int .i64 0]),.agg [(0,26,4)] true⟩
    (.leaf)
    (.leaf))))
  (.node 70 ⟨21,320,some (.agg #[.slice none 0 0,.slice none 0 0,.slice none 0 0,.int .i64 0,.string ByteArray.empty,.int .i64 0,.int .i64 0,.slice none 0 0,.int .i64 0,.int .i64 0,.int .i64 0,.bool false,.slice none 0 0,.int .i64 0,.slice none 0 0,.slice none 0 0,.int .i64 0,.pointer none,.slice none 0 0,.int .i64 0,.slice none 0 0]),.agg [(0,65,16),(16,3,1),(17,50,1),(18,39,2),(20,69,1)] true⟩
   (.node 68 ⟨1,8,some (.pointer none),.ptr 71⟩
   (.node 66 ⟨1,0,some (.tuple #[.int .i64 0,.int .i64 0]),.scalar⟩
    (.node 65 ⟨16,248,some (.agg #[.slice none 0 0,.slice none 0 0,.slice none 0 0,.int .i64 0,.string ByteArray.empty,.int .i64 0,.int .i64 0,.slice none 0 0,.int .i64 0,.int .i64 0,.int .i64 0,.bool false,.slice none 0 0,.int .i64 0,.slice none 0 0,.slice none 0 0]),.agg [(0,26,4),(4,36,12)] true⟩
    (.leaf)
    (.leaf))
    (.leaf))
   (.node 69 ⟨1,24,some (.slice none 0 0),.sl 4⟩
    (.leaf)
    (.leaf)))
   (.node 73 ⟨1,8,some (.nilFunc),.scalar⟩
   (.node 71 ⟨21,320,some (.agg #[.slice none 0 0,.slice none 0 0,.slice none 0 0,.int .i64 0,.string ByteArray.empty,.int .i64 0,.int .i64 0,.slice none 0 0,.int .i64 0,.int .i64 0,.int .i64 0,.bool false,.slice none 0 0,.int .i64 0,.slice none 0 0,.slice none 0 0,.int .i64 0,.pointer none,.slice none 0 0,.int .i64 0,.slice none 0 0]),.agg [(0,65,16),(16,3,1),(17,50,1),(18,39,2),(20,69,1)] true⟩
    (.leaf)
    (.leaf))
   (.node 78 ⟨1,8,some (.nilFunc),.scalar⟩
    (.leaf)
    (.leaf)))))
  (.node 97 ⟨1,0,some (.tuple #[.bool false,.bool false]),.scalar⟩
  (.node 90 ⟨10,80,some (.agg #[.int .i64 0,.int .i64 0,.int .i64 0,.int .i64 0,.int .i64 0,.int .i64 0,.int .i64 0,.int .i64 0,.int .i64 0,.bool false]),.agg [(0,3,1),(1,3,1),(2,3,1),(3,3,1),(4,3,1),(5,3,1),(6,32,4)] true⟩
   (.node 86 ⟨1,8,some (.nilFunc),.scalar⟩
   (.node 85 ⟨1,8,some (.pointer none),.ptr 36⟩
    (.node 82 ⟨7,64,some (.agg #[.string ByteArray.empty,.int .i64 0,.int .i64 0,.int .i64 0,.int .i64 0,.bool false,.bool false]),.agg [(0,9,1),(1,3,1),(2,32,4),(6,4,1)] true⟩
    (.leaf)
    (.leaf))
    (.leaf))
   (.node 89 ⟨10,80,some (.agg #[.int .i64 0,.int .i64 0,.int .i64 0,.int .i64 0,.int .i64 0,.int .i64 0,.int .i64 0,.int .i64 0,.int .i64 0,.bool false]),.agg [(0,3,1),(1,3,1),(2,3,1),(3,3,1),(4,3,1),(5,3,1),(6,32,4)] true⟩
    (.leaf)
    (.leaf)))
   (.node 93 ⟨1,0,some (.tuple #[.slice none 0 0,.int .i64 0]),.scalar⟩
   (.node 92 ⟨1,0,some (.tuple #[.int .i64 0,.bool false]),.scalar⟩
    (.node 91 ⟨1,8,some (.int .i64 0),.int .i64⟩
    (.leaf)
    (.leaf))
    (.leaf))
   (.node 96 ⟨1,8,some (.nilFunc),.scalar⟩
    (.leaf)
    (.leaf))))
  (.node 107 ⟨1,8,some (.nilFunc),.scalar⟩
   (.node 104 ⟨3,32,some (.agg #[.string ByteArray.empty,.int .i64 0,.int .i64 0]),.agg [(0,9,1),(1,3,1),(2,3,1)] true⟩
   (.node 103 ⟨3,32,some (.agg #[.string ByteArray.empty,.int .i64 0,.int .i64 0]),.agg [(0,9,1),(1,3,1),(2,3,1)] true⟩
    (.node 100 ⟨1,0,some (.tuple #[.int .i64 0,.int .i64 0]),.scalar⟩
    (.leaf)
    (.leaf))
    (.leaf))
   (.node 105 ⟨1,0,some (.tuple #[.agg #[.string ByteArray.empty,.int .i64 0,.int .i64 0],.int .i64 0]),.scalar⟩
    (.leaf)
    (.leaf)))
   (.node 113 ⟨1,8,some (.nilFunc),.scalar⟩
   (.node 111 ⟨1,0,some (.tuple #[.agg #[.string ByteArray.empty,.int .i64 0,.int .i64 0],.int .i64 0]),.scalar⟩
    (.leaf)
    (.leaf))
   (.node 114 ⟨1,8,some (.nilFunc),.scalar⟩
    (.leaf)
    (.leaf)))))))
 (.node 208 ⟨1,8,some (.nilFunc),.scalar⟩
 (.node 151 ⟨1,8,some (.nilFunc),.scalar⟩
  (.node 136 ⟨1,8,some (.nilFunc),.scalar⟩
  (.node 125 ⟨1,8,some (.int .i64 0),.int .i64⟩
   (.node 122 ⟨2,16,some (.agg #[.int .i64 0,.int .i64 0]),.agg [(0,3,1),(1,3,1)] true⟩
   (.node 121 ⟨2,16,some (.agg #[.int .i64 0,.int .i64 0]),.agg [(0,3,1),(1,3,1)] true⟩
    (.node 120 ⟨1,24,some (.slice none 0 0),.sl 122⟩
    (.leaf)
    (.leaf))
    (.leaf))
   (.node 124 ⟨1,8,some (.nilFunc),.scalar⟩
    (.leaf)
    (.leaf)))
   (.node 129 ⟨24,344,some (.agg #[.slice none 0 0,.slice none 0 0,.slice none 0 0,.int .i64 0,.string ByteArray.empty,.int .i64 0,.int .i64 0,.slice none 0 0,.int .i64 0,.int .i64 0,.int .i64 0,.bool false,.slice none 0 0,.int .i64 0,.slice none 0 0,.slice none 0 0,.slice none 0 0,.int .i64 0,.int .i64 0,.int .i64 0,.int .i64 0,.int .i64 0,.bool false,.slice none 0 0]),.agg [(0,26,4),(4,36,12),(16,30,1),(17,45,6),(23,30,1)] true⟩
   (.node 127 ⟨1,8,some (.pointer none),.ptr 130⟩
    (.node 126 ⟨1,0,some (.tuple #[.int .i64 0,.bool false]),.scalar⟩
    (.leaf)
    (.leaf))
    (.leaf))
   (.node 130 ⟨24,344,some (.agg #[.slice none 0 0,.slice none 0 0,.slice none 0 0,.int .i64 0,.string ByteArray.empty,.int .i64 0,.int .i64 0,.slice none 0 0,.int .i64 0,.int .i64 0,.int .i64 0,.bool false,.slice none 0 0,.int .i64 0,.slice none 0 0,.slice none 0 0,.slice none 0 0,.int .i64 0,.int .i64 0,.int .i64 0,.int .i64 0,.int .i64 0,.bool false,.slice none 0 0]),.agg [(0,26,4),(4,36,12),(16,30,1),(17,45,6),(23,30,1)] true⟩
    (.leaf)
    (.leaf))))
  (.node 145 ⟨5,88,some (.agg #[.pointer none,.slice none 0 0,.slice none 0 0,.slice none 0 0,.int .i64 0]),.agg [(0,142,1),(1,26,4)] true⟩
   (.node 143 ⟨1,24,some (.agg #[.slice none 0 0]),.agg [(0,53,1)] true⟩
   (.node 142 ⟨1,8,some (.pointer none),.ptr 144⟩
    (.node 138 ⟨1,8,some (.nilFunc),.scalar⟩
    (.leaf)
    (.leaf))
    (.leaf))
   (.node 144 ⟨1,24,some (.agg #[.slice none 0 0]),.agg [(0,53,1)] true⟩
    (.leaf)
    (.leaf)))
   (.node 148 ⟨1,8,some (.nilFunc),.scalar⟩
   (.node 147 ⟨1,8,some (.nilFunc),.scalar⟩
    (.node 146 ⟨5,88,some (.agg #[.pointer none,.slice none 0 0,.slice none 0 0,.slice none 0 0,.int .i64 0]),.agg [(0,142,1),(1,26,4)] true⟩
    (.leaf)
    (.leaf))
    (.leaf))
   (.node 149 ⟨1,8,some (.nilFunc),.scalar⟩
    (.leaf)
    (.leaf)))))
  (.node 168 ⟨1,0,some (.tuple #[.agg #[.int .i64 0,.int .i64 0,.int .i64 0,.bool false],.int .i64 0]),.scalar⟩
  (.node 159 ⟨4,32,some (.agg #[.int .i64 0,.int .i64 0,.int .i64 0,.int .i64 0]),.agg [(0,122,2),(2,158,2)] true⟩
   (.node 157 ⟨2,16,some (.agg #[.int .i64 0,.int .i64 0]),.agg [(0,3,1),(1,3,1)] true⟩
   (.node 155 ⟨1,24,some (.slice none 0 0),.sl 160⟩
    (.node 154 ⟨1,8,some (.nilFunc),.scalar⟩
    (.leaf)
    (.leaf))
    (.leaf))
   (.node 158 ⟨2,16,some (.agg #[.int .i64 0,.int .i64 0]),.agg [(0,3,1),(1,3,1)] true⟩
    (.leaf)
    (.leaf)))
   (.node 164 ⟨1,8,some (.nilFunc),.scalar⟩
   (.node 161 ⟨1,0,some (.tuple #[.agg #[.int .i64 0,.int .i64 0,.int .i64 0,.bool false],.bool false]),.scalar⟩
    (.node 160 ⟨4,32,some (.agg #[.int .i64 0,.int .i64 0,.int .i64 0,.int .i64 0]),.agg [(0,122,2),(2,158,2)] true⟩
    (.leaf)
    (.leaf))
    (.leaf))
   (.node 167 ⟨1,8,some (.nilFunc),.scalar⟩
    (.leaf)
    (.leaf))))
  (.node 193 ⟨1,8,some (.nilFunc),.scalar⟩
   (.node 178 ⟨1,8,some (.nilFunc),.scalar⟩
   (.node 173 ⟨1,8,some (.nilFunc),.scalar⟩
    (.node 172 ⟨1,8,some (.map none),.map 3 3⟩
    (.leaf)
    (.leaf))
    (.leaf))
   (.node 180 ⟨1,8,some (.nilFunc),.scalar⟩
    (.leaf)
    (.leaf)))
   (.node 198 ⟨1,8,some (.int .u64 0),.int .u64⟩
   (.node 194 ⟨4,32,some (.agg #[.int .i64 0,.int .i64 0,.int .i64 0,.bool false]),.agg [(0,3,1),(1,3,1),(2,3,1),(3,4,1)] true⟩
    (.leaf)
    (.leaf))
   (.node 202 ⟨1,0,some (.tuple #[.slice none 0 0,.slice none 0 0,.int .i64 0]),.scalar⟩
    (.leaf)
    (.leaf))))))
 (.node 255 ⟨1,8,some (.nilFunc),.scalar⟩
  (.node 229 ⟨1,8,some (.nilFunc),.scalar⟩
  (.node 220 ⟨1,8,some (.int .u64 0),.int .u64⟩
   (.node 215 ⟨1,0,some (.tuple #[.int .i64 0,.bool false]),.scalar⟩
   (.node 211 ⟨1,0,some (.tuple #[.int .i64 0,.int .i64 0]),.scalar⟩
    (.node 210 ⟨1,8,some (.int .i64 0),.int .i64⟩
    (.leaf)
    (.leaf))
    (.leaf))
   (.node 218 ⟨1,4,some (.int .u32 0),.int .u32⟩
    (.leaf)
    (.leaf)))
   (.node 226 ⟨1,8,some (.nilFunc),.scalar⟩
   (.node 225 ⟨1,8,some (.nilFunc),.scalar⟩
    (.node 224 ⟨1,8,some (.int .u64 0),.int .u64⟩
    (.leaf)
    (.leaf))
    (.leaf))
   (.node 228 ⟨1,8,some (.pointer none),.ptr 3⟩
    (.leaf)
    (.leaf))))
  (.node 241 ⟨1,8,some (.pointer none),.ptr 224⟩
   (.node 234 ⟨1,0,some (.tuple #[.slice none 0 0,.int .i64 0]),.scalar⟩
   (.node 233 ⟨1,24,some (.slice none 0 0),.sl 5⟩
    (.node 231 ⟨1,8,some (.nilFunc),.scalar⟩
    (.leaf)
    (.leaf))
    (.leaf))
   (.node 238 ⟨1,8,some (.nilFunc),.scalar⟩
    (.leaf)
    (.leaf)))
   (.node 250 ⟨1,8,some (.nilFunc),.scalar⟩
   (.node 243 ⟨1,0,some (.tuple #[.int .i64 0,.int .i64 0]),.scalar⟩
    (.leaf)
    (.leaf))
   (.node 251 ⟨1,8,some (.nilFunc),.scalar⟩
    (.leaf)
    (.leaf)))))
  (.node 277 ⟨0,0,some (.agg #[]),.agg [(0,275,0)] false⟩
  (.node 269 ⟨1,8,some (.nilFunc),.scalar⟩
   (.node 264 ⟨5,20,some (.agg #[.int .u32 0,.int .u32 0,.int .u32 0,.int .u32 0,.int .u32 0]),.arr 5 218⟩
   (.node 262 ⟨1,0,some (.tuple #[.int .u64 0,.int .u64 0]),.scalar⟩
    (.node 259 ⟨1,8,some (.nilFunc),.scalar⟩
    (.leaf)
    (.leaf))
    (.leaf))
   (.node 268 ⟨1,0,some (.tuple #[.int .u32 0,.int .u32 0]),.scalar⟩
    (.leaf)
    (.leaf)))
   (.node 275 ⟨0,0,some (.agg #[]),.arr 0 16⟩
   (.node 273 ⟨4,40,some (.agg #[.pointer none,.pointer none,.pointer none,.string ByteArray.empty]),.agg [(0,17,1),(1,17,1),(2,17,1),(3,9,1)] false⟩
    (.node 270 ⟨1,0,some (.tuple #[.int .u64 0,.int .u64 0]),.scalar⟩
    (.leaf)
    (.leaf))
    (.leaf))
   (.node 276 ⟨0,0,some (.agg #[]),.agg [(0,275,0)] false⟩
    (.leaf)
    (.leaf))))
  (.node 283 ⟨1,4,some (.int .i32 0),.int .i32⟩
   (.node 281 ⟨1,8,some (.nilFunc),.scalar⟩
   (.node 280 ⟨1,1,some (.int .u8 0),.int .u8⟩
    (.node 279 ⟨1,1,some (.int .u8 0),.int .u8⟩
    (.leaf)
    (.leaf))
    (.leaf))
   (.node 282 ⟨1,8,some (.pointer none),.ptr 5⟩
    (.leaf)
    (.leaf)))
   (.node 285 ⟨11,48,some (.agg #[.int .u64 0,.int .u64 0,.int .u32 0,.int .u8 0,.int .u8 0,.int .u8 0,.int .u8 0,.nilFunc,.pointer none,.int .i32 0,.int .i32 0]),.agg [(0,12,1),(1,12,1),(2,218,1),(3,279,1),(4,5,1),(5,5,1),(6,280,1),(7,281,1),(8,282,1),(9,283,1),(10,284,1)] false⟩
   (.node 284 ⟨1,4,some (.int .i32 0),.int .i32⟩
    (.leaf)
    (.leaf))
   (.node 286 ⟨11,48,some (.agg #[.int .u64 0,.int .u64 0,.int .u32 0,.int .u8 0,.int .u8 0,.int .u8 0,.int .u8 0,.nilFunc,.pointer none,.int .i32 0,.int .i32 0]),.agg [(0,12,1),(1,12,1),(2,218,1),(3,279,1),(4,5,1),(5,5,1),(6,280,1),(7,281,1),(8,282,1),(9,283,1),(10,284,1)] false⟩
    (.leaf)
    (.leaf)))))))
theorem zf:yZ Tryz.prog tb:=zut zws
end Go.Cg
