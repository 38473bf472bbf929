/- A part of the walks by abstract values: no statement of its own. -/
import Derived.Test.YtdngpcmllgnbjaaGreatE3
import Derived.Test.YtdngpcmllgnbjaaGreatProg
import Derived.KernelRfl
import Derived.Test.YtdngpcmllgnbjaaGreatE6
import Derived.Shelf.RegionOpenPlain
import Derived.WalkKit
import Derived.Lib.Walk
import Derived.Lib.SliceRun
import Derived.Lib.AppendZerosOnto
import Derived.Laws.CopyOwn
import Derived.OwnWalk
import Derived.Deep.RegionLaw
import Derived.Test.YtdngpcmllgnbjaaGreatE5
set_option linter.unusedVariables false
set_option linter.unusedSimpArgs false
namespace Go.Cg
open Go.Proofs
def tb:Tab:=.node 190 ⟨1,0,some (.tuple #[.int .i64 0,.bool false]),.scalar⟩
 (.node 88 ⟨1,0,some (.tuple #[.slice none 0 0,.int .i64 0]),.scalar⟩
  (.node 39 ⟨1,1,some (.int .i8 0),.int .i8⟩
   (.node 16 ⟨1,8,some (.pointer none),.ptr 487⟩
    (.node 6 ⟨1,1,some (.int .u8 0),.int .u8⟩
     (.node 3 ⟨1,8,some (.int .i64 0),.int .i64⟩
      (.node 1 ⟨1,8,some (.nilFunc),.scalar⟩
       (.node 0 ⟨1,0,some (.tuple #[]),.scalar⟩
        (.leaf)
        (.leaf))
       (.node 2 ⟨1,8,some (.int .i64 0),.int .i64⟩
        (.leaf)
        (.leaf)))
      (.node 5 ⟨1,1,some (.int .u8 0),.int .u8⟩
       (.node 4 ⟨1,1,some (.bool false),.bool⟩
        (.leaf)
        (.leaf))
       (.leaf)))
     (.node 9 ⟨1,16,some (.string ByteArray.empty),.str⟩
      (.node 8 ⟨4,24,some (.agg #[.int .i64 0,.int .i64 0,.bool false,.int .u8 0]),.agg [(0,2,1),(1,3,1),(2,4,1),(3,6,1)] true⟩
       (.node 7 ⟨4,24,some (.agg #[.int .i64 0,.int .i64 0,.bool false,.int .u8 0]),.agg [(0,2,1),(1,3,1),(2,4,1),(3,6,1)] true⟩
        (.leaf)
        (.leaf))
       (.leaf))
      (.node 11 ⟨1,16,some (.string ByteArray.empty),.str⟩
       (.node 10 ⟨1,16,some (.string ByteArray.empty),.str⟩
        (.leaf)
        (.leaf))
       (.leaf))))
    (.node 29 ⟨1,24,some (.slice none 0 0),.sl 65⟩
     (.node 24 ⟨1,24,some (.slice none 0 0),.sl 68⟩
      (.node 22 ⟨1,24,some (.slice none 0 0),.sl 61⟩
       (.node 20 ⟨1,16,some (.nilIface),.scalar⟩
        (.leaf)
        (.leaf))
       (.node 23 ⟨1,24,some (.slice none 0 0),.sl 237⟩
        (.leaf)
        (.leaf)))
      (.node 26 ⟨4,80,some (.agg #[.slice none 0 0,.slice none 0 0,.slice none 0 0,.int .i64 0]),.agg [(0,22,1),(1,23,1),(2,24,1),(3,3,1)] true⟩
       (.node 25 ⟨4,80,some (.agg #[.slice none 0 0,.slice none 0 0,.slice none 0 0,.int .i64 0]),.agg [(0,22,1),(1,23,1),(2,24,1),(3,3,1)] true⟩
        (.leaf)
        (.leaf))
       (.leaf)))
     (.node 32 ⟨1,8,some (.int .i64 0),.int .i64⟩
      (.node 31 ⟨2,32,some (.agg #[.slice none 0 0,.int .i64 0]),.agg [(0,29,1),(1,3,1)] true⟩
       (.node 30 ⟨2,32,some (.agg #[.slice none 0 0,.int .i64 0]),.agg [(0,29,1),(1,3,1)] true⟩
        (.leaf)
        (.leaf))
       (.leaf))
      (.node 35 ⟨1,0,some (.tuple #[.int .i64 0,.int .i64 0]),.scalar⟩
       (.node 33 ⟨1,0,some (.tuple #[.agg #[.slice none 0 0,.int .i64 0],.int .i64 0,.int .i64 0]),.scalar⟩
        (.leaf)
        (.leaf))
       (.leaf)))))
   (.node 60 ⟨4,56,some (.agg #[.string ByteArray.empty,.int .i64 0,.int .i64 0,.slice none 0 0]),.agg [(0,9,1),(1,3,1),(2,3,1),(3,59,1)] true⟩
    (.node 52 ⟨1,24,some (.slice none 0 0),.sl 130⟩
     (.node 46 ⟨6,64,some (.agg #[.int .i64 0,.int .i64 0,.int .i64 0,.int .i64 0,.bool false,.slice none 0 0]),.agg [(0,3,1),(1,44,4),(5,45,1)] true⟩
      (.node 44 ⟨4,32,some (.agg #[.int .i64 0,.int .i64 0,.int .i64 0,.bool false]),.agg [(0,3,1),(1,3,1),(2,3,1),(3,4,1)] true⟩
       (.node 43 ⟨4,32,some (.agg #[.int .i64 0,.int .i64 0,.int .i64 0,.bool false]),.agg [(0,3,1),(1,3,1),(2,3,1),(3,4,1)] true⟩
        (.leaf)
        (.leaf))
       (.node 45 ⟨1,24,some (.slice none 0 0),.sl 102⟩
        (.leaf)
        (.leaf)))
      (.node 49 ⟨1,24,some (.slice none 0 0),.sl 2⟩
       (.node 47 ⟨6,64,some (.agg #[.int .i64 0,.int .i64 0,.int .i64 0,.int .i64 0,.bool false,.slice none 0 0]),.agg [(0,3,1),(1,44,4),(5,45,1)] true⟩
        (.leaf)
        (.leaf))
       (.leaf)))
     (.node 55 ⟨10,160,some (.agg #[.slice none 0 0,.slice none 0 0,.slice none 0 0,.slice none 0 0,.int .i64 0,.int .i64 0,.int .i64 0,.int .i64 0,.bool false,.slice none 0 0]),.agg [(0,52,1),(1,53,1),(2,45,1),(3,49,1),(4,47,6)] true⟩
      (.node 54 ⟨10,160,some (.agg #[.slice none 0 0,.slice none 0 0,.slice none 0 0,.slice none 0 0,.int .i64 0,.int .i64 0,.int .i64 0,.int .i64 0,.bool false,.slice none 0 0]),.agg [(0,52,1),(1,53,1),(2,45,1),(3,49,1),(4,47,6)] true⟩
       (.node 53 ⟨1,24,some (.slice none 0 0),.sl 45⟩
        (.leaf)
        (.leaf))
       (.leaf))
      (.node 59 ⟨1,24,some (.slice none 0 0),.sl 3⟩
       (.node 58 ⟨1,8,some (.pointer none),.ptr 144⟩
        (.leaf)
        (.leaf))
       (.leaf))))
    (.node 66 ⟨1,24,some (.slice none 0 0),.sl 181⟩
     (.node 63 ⟨6,48,some (.agg #[.int .i64 0,.int .i64 0,.int .i64 0,.int .i64 0,.int .i64 0,.bool false]),.agg [(0,3,1),(1,2,1),(2,44,4)] true⟩
      (.node 62 ⟨6,48,some (.agg #[.int .i64 0,.int .i64 0,.int .i64 0,.int .i64 0,.int .i64 0,.bool false]),.agg [(0,3,1),(1,2,1),(2,44,4)] true⟩
       (.node 61 ⟨4,56,some (.agg #[.string ByteArray.empty,.int .i64 0,.int .i64 0,.slice none 0 0]),.agg [(0,9,1),(1,3,1),(2,3,1),(3,59,1)] true⟩
        (.leaf)
        (.leaf))
       (.leaf))
      (.node 65 ⟨1,24,some (.slice none 0 0),.sl 44⟩
       (.node 64 ⟨1,24,some (.slice none 0 0),.sl 63⟩
        (.leaf)
        (.leaf))
       (.leaf)))
     (.node 71 ⟨1,8,some (.pointer none),.ptr 172⟩
      (.node 68 ⟨12,168,some (.agg #[.string ByteArray.empty,.int .i64 0,.int .i64 0,.slice none 0 0,.int .i64 0,.int .i64 0,.int .i64 0,.bool false,.slice none 0 0,.int .i64 0,.slice none 0 0,.slice none 0 0]),.agg [(0,9,1),(1,3,1),(2,3,1),(3,65,1),(4,44,4),(8,65,1),(9,3,1),(10,64,1),(11,66,1)] true⟩
       (.node 67 ⟨12,168,some (.agg #[.string ByteArray.empty,.int .i64 0,.int .i64 0,.slice none 0 0,.int .i64 0,.int .i64 0,.int .i64 0,.bool false,.slice none 0 0,.int .i64 0,.slice none 0 0,.slice none 0 0]),.agg [(0,9,1),(1,3,1),(2,3,1),(3,65,1),(4,44,4),(8,65,1),(9,3,1),(10,64,1),(11,66,1)] true⟩
        (.leaf)
        (.leaf))
       (.leaf))
      (.node 87 ⟨1,24,some (.slice none 0 0),.sl 4⟩
       (.node 77 ⟨1,0,some (.tuple #[.slice none 0 0,.bool false]),.scalar⟩
        (.leaf)
        (.leaf))
       (.leaf))))))
  (.node 151 ⟨19,288,some (.agg #[.string ByteArray.empty,.int .i64 0,.int .i64 0,.slice none 0 0,.int .i64 0,.int .i64 0,.int .i64 0,.bool false,.slice none 0 0,.int .i64 0,.slice none 0 0,.slice none 0 0,.slice none 0 0,.slice none 0 0,.int .i64 0,.int .i64 0,.int .i64 0,.slice none 0 0,.slice none 0 0]),.agg [(0,68,12),(12,134,3),(15,3,1),(16,3,1),(17,149,1),(18,150,1)] true⟩
   (.node 136 ⟨2,16,some (.agg #[.int .i64 0,.int .i64 0]),.agg [(0,3,1),(1,3,1)] true⟩
    (.node 118 ⟨6,48,some (.agg #[.int .u64 0,.int .u64 0,.int .u64 0,.int .u64 0,.int .u64 0,.int .u64 0]),.arr 6 102⟩
     (.node 98 ⟨2,16,some (.agg #[.int .i64 0,.int .i64 0]),.agg [(0,3,1),(1,3,1)] true⟩
      (.node 91 ⟨1,8,some (.nilFunc),.scalar⟩
       (.node 90 ⟨1,8,some (.nilFunc),.scalar⟩
        (.leaf)
        (.leaf))
       (.node 97 ⟨2,16,some (.agg #[.int .i64 0,.int .i64 0]),.agg [(0,3,1),(1,3,1)] true⟩
        (.leaf)
        (.leaf)))
      (.node 103 ⟨1,8,some (.pointer none),.ptr 218⟩
       (.node 102 ⟨1,8,some (.int .u64 0),.int .u64⟩
        (.leaf)
        (.leaf))
       (.leaf)))
     (.node 133 ⟨3,56,some (.agg #[.slice none 0 0,.slice none 0 0,.int .i64 0]),.agg [(0,59,1),(1,59,1),(2,3,1)] true⟩
      (.node 130 ⟨4,48,some (.agg #[.int .i64 0,.int .i64 0,.int .u64 0,.slice none 0 0]),.agg [(0,3,1),(1,3,1),(2,102,1),(3,45,1)] true⟩
       (.node 129 ⟨4,48,some (.agg #[.int .i64 0,.int .i64 0,.int .u64 0,.slice none 0 0]),.agg [(0,3,1),(1,3,1),(2,102,1),(3,45,1)] true⟩
        (.leaf)
        (.leaf))
       (.leaf))
      (.node 135 ⟨2,16,some (.agg #[.int .i64 0,.int .i64 0]),.agg [(0,3,1),(1,3,1)] true⟩
       (.node 134 ⟨3,56,some (.agg #[.slice none 0 0,.slice none 0 0,.int .i64 0]),.agg [(0,59,1),(1,59,1),(2,3,1)] true⟩
        (.leaf)
        (.leaf))
       (.leaf))))
    (.node 144 ⟨12,160,some (.agg #[.pointer none,.pointer none,.pointer none,.slice none 0 0,.slice none 0 0,.slice none 0 0,.int .i64 0,.int .i64 0,.int .i64 0,.int .i64 0,.bool false,.slice none 0 0]),.agg [(0,140,1),(1,103,1),(2,141,1),(3,142,1),(4,49,1),(5,49,1),(6,47,6)] true⟩
     (.node 141 ⟨1,8,some (.pointer none),.ptr 225⟩
      (.node 140 ⟨1,8,some (.pointer none),.ptr 162⟩
       (.node 137 ⟨1,0,some (.tuple #[.pointer none,.agg #[.int .i64 0,.int .i64 0],.int .i64 0]),.scalar⟩
        (.leaf)
        (.leaf))
       (.leaf))
      (.node 143 ⟨12,160,some (.agg #[.pointer none,.pointer none,.pointer none,.slice none 0 0,.slice none 0 0,.slice none 0 0,.int .i64 0,.int .i64 0,.int .i64 0,.int .i64 0,.bool false,.slice none 0 0]),.agg [(0,140,1),(1,103,1),(2,141,1),(3,142,1),(4,49,1),(5,49,1),(6,47,6)] true⟩
       (.node 142 ⟨1,24,some (.slice none 0 0),.sl 311⟩
        (.leaf)
        (.leaf))
       (.leaf)))
     (.node 148 ⟨1,8,some (.pointer none),.ptr 156⟩
      (.node 146 ⟨1,0,some (.tuple #[.int .i64 0,.pointer none,.int .i64 0]),.scalar⟩
       (.node 145 ⟨1,8,some (.pointer none),.ptr 152⟩
        (.leaf)
        (.leaf))
       (.leaf))
      (.node 150 ⟨1,24,some (.slice none 0 0),.sl 87⟩
       (.node 149 ⟨1,24,some (.slice none 0 0),.sl 154⟩
        (.leaf)
        (.leaf))
       (.leaf)))))
   (.node 167 ⟨2,16,some (.agg #[.int .i64 0,.int .i64 0]),.agg [(0,3,1),(1,3,1)] true⟩
    (.node 159 ⟨1,8,some (.map none),.map 418 3⟩
     (.node 155 ⟨12,112,some (.agg #[.pointer none,.int .i64 0,.pointer none,.int .i64 0,.int .i64 0,.int .i64 0,.int .i64 0,.int .i64 0,.int .i64 0,.bool false,.slice none 0 0,.bool false]),.agg [(0,58,1),(1,3,1),(2,145,1),(3,3,1),(4,63,6),(10,154,2)] true⟩
      (.node 153 ⟨2,32,some (.agg #[.slice none 0 0,.bool false]),.agg [(0,59,1),(1,4,1)] true⟩
       (.node 152 ⟨19,288,some (.agg #[.string ByteArray.empty,.int .i64 0,.int .i64 0,.slice none 0 0,.int .i64 0,.int .i64 0,.int .i64 0,.bool false,.slice none 0 0,.int .i64 0,.slice none 0 0,.slice none 0 0,.slice none 0 0,.slice none 0 0,.int .i64 0,.int .i64 0,.int .i64 0,.slice none 0 0,.slice none 0 0]),.agg [(0,68,12),(12,134,3),(15,3,1),(16,3,1),(17,149,1),(18,150,1)] true⟩
        (.leaf)
        (.leaf))
       (.node 154 ⟨2,32,some (.agg #[.slice none 0 0,.bool false]),.agg [(0,59,1),(1,4,1)] true⟩
        (.leaf)
        (.leaf)))
      (.node 158 ⟨1,24,some (.slice none 0 0),.sl 152⟩
       (.node 156 ⟨12,112,some (.agg #[.pointer none,.int .i64 0,.pointer none,.int .i64 0,.int .i64 0,.int .i64 0,.int .i64 0,.int .i64 0,.int .i64 0,.bool false,.slice none 0 0,.bool false]),.agg [(0,58,1),(1,3,1),(2,145,1),(3,3,1),(4,63,6),(10,154,2)] true⟩
        (.leaf)
        (.leaf))
       (.leaf)))
     (.node 162 ⟨9,168,some (.agg #[.slice none 0 0,.slice none 0 0,.slice none 0 0,.int .i64 0,.slice none 0 0,.slice none 0 0,.slice none 0 0,.map none,.map none]),.agg [(0,26,4),(4,158,1),(5,59,1),(6,59,1),(7,159,1),(8,160,1)] true⟩
      (.node 161 ⟨9,168,some (.agg #[.slice none 0 0,.slice none 0 0,.slice none 0 0,.int .i64 0,.slice none 0 0,.slice none 0 0,.slice none 0 0,.map none,.map none]),.agg [(0,26,4),(4,158,1),(5,59,1),(6,59,1),(7,159,1),(8,160,1)] true⟩
       (.node 160 ⟨1,8,some (.map none),.map 44 3⟩
        (.leaf)
        (.leaf))
       (.leaf))
      (.node 166 ⟨2,16,some (.agg #[.int .i64 0,.int .i64 0]),.agg [(0,3,1),(1,3,1)] true⟩
       (.node 164 ⟨1,8,some (.nilFunc),.scalar⟩
        (.leaf)
        (.leaf))
       (.leaf))))
    (.node 175 ⟨1,8,some (.pointer none),.ptr 177⟩
     (.node 172 ⟨4,80,some (.agg #[.slice none 0 0,.slice none 0 0,.slice none 0 0,.int .i64 0]),.agg [(0,26,4)] true⟩
      (.node 171 ⟨4,80,some (.agg #[.slice none 0 0,.slice none 0 0,.slice none 0 0,.int .i64 0]),.agg [(0,26,4)] true⟩
       (.node 168 ⟨1,0,some (.tuple #[.agg #[.int .i64 0,.int .i64 0],.int .i64 0]),.scalar⟩
        (.leaf)
        (.leaf))
       (.leaf))
      (.node 174 ⟨16,248,some (.agg #[.slice none 0 0,.slice none 0 0,.slice none 0 0,.int .i64 0,.string ByteArray.empty,.int .i64 0,.int .i64 0,.slice none 0 0,.int .i64 0,.int .i64 0,.int .i64 0,.bool false,.slice none 0 0,.int .i64 0,.slice none 0 0,.slice none 0 0]),.agg [(0,26,4),(4,68,12)] true⟩
       (.node 173 ⟨16,248,some (.agg #[.slice none 0 0,.slice none 0 0,.slice none 0 0,.int .i64 0,.string ByteArray.empty,.int .i64 0,.int .i64 0,.slice none 0 0,.int .i64 0,.int .i64 0,.int .i64 0,.bool false,.slice none 0 0,.int .i64 0,.slice none 0 0,.slice none 0 0]),.agg [(0,26,4),(4,68,12)] true⟩
        (.leaf)
        (.leaf))
       (.leaf)))
     (.node 180 ⟨10,80,some (.agg #[.int .i64 0,.int .i64 0,.int .i64 0,.int .i64 0,.int .i64 0,.int .i64 0,.int .i64 0,.int .i64 0,.int .i64 0,.bool false]),.agg [(0,3,1),(1,3,1),(2,3,1),(3,3,1),(4,3,1),(5,3,1),(6,44,4)] true⟩
      (.node 177 ⟨21,320,some (.agg #[.slice none 0 0,.slice none 0 0,.slice none 0 0,.int .i64 0,.string ByteArray.empty,.int .i64 0,.int .i64 0,.slice none 0 0,.int .i64 0,.int .i64 0,.int .i64 0,.bool false,.slice none 0 0,.int .i64 0,.slice none 0 0,.slice none 0 0,.int .i64 0,.pointer none,.slice none 0 0,.int .i64 0,.slice none 0 0]),.agg [(0,174,16),(16,3,1),(17,71,1),(18,31,2),(20,87,1)] true⟩
       (.node 176 ⟨21,320,some (.agg #[.slice none 0 0,.slice none 0 0,.slice none 0 0,.int .i64 0,.string ByteArray.empty,.int .i64 0,.int .i64 0,.slice none 0 0,.int .i64 0,.int .i64 0,.int .i64 0,.bool false,.slice none 0 0,.int .i64 0,.slice none 0 0,.slice none 0 0,.int .i64 0,.pointer none,.slice none 0 0,.int .i64 0,.slice none 0 0]),.agg [(0,174,16),(16,3,1),(17,71,1),(18,31,2),(20,87,1)] true⟩
        (.leaf)
        (.leaf))
       (.leaf))
      (.node 189 ⟨1,8,some (.int .i64 0),.int .i64⟩
       (.node 181 ⟨10,80,some (.agg #[.int .i64 0,.int .i64 0,.int .i64 0,.int .i64 0,.int .i64 0,.int .i64 0,.int .i64 0,.int .i64 0,.int .i64 0,.bool false]),.agg [(0,3,1),(1,3,1),(2,3,1),(3,3,1),(4,3,1),(5,3,1),(6,44,4)] true⟩
        (.leaf)
        (.leaf))
       (.leaf)))))))
 (.node 369 ⟨1,0,some (.tuple #[.int .i64 0,.bool false]),.scalar⟩
  (.node 251 ⟨1,8,some (.nilFunc),.scalar⟩
   (.node 223 ⟨1,24,some (.slice none 0 0),.sl 228⟩
    (.node 198 ⟨1,0,some (.tuple #[.agg #[.string ByteArray.empty,.int .i64 0,.int .i64 0],.int .i64 0]),.scalar⟩
     (.node 195 ⟨1,8,some (.nilFunc),.scalar⟩
      (.node 193 ⟨24,344,some (.agg #[.slice none 0 0,.slice none 0 0,.slice none 0 0,.int .i64 0,.string ByteArray.empty,.int .i64 0,.int .i64 0,.slice none 0 0,.int .i64 0,.int .i64 0,.int .i64 0,.bool false,.slice none 0 0,.int .i64 0,.slice none 0 0,.slice none 0 0,.slice none 0 0,.int .i64 0,.int .i64 0,.int .i64 0,.int .i64 0,.int .i64 0,.bool false,.slice none 0 0]),.agg [(0,26,4),(4,68,12),(16,65,1),(17,63,6),(23,65,1)] true⟩
       (.node 191 ⟨1,8,some (.pointer none),.ptr 194⟩
        (.leaf)
        (.leaf))
       (.node 194 ⟨24,344,some (.agg #[.slice none 0 0,.slice none 0 0,.slice none 0 0,.int .i64 0,.string ByteArray.empty,.int .i64 0,.int .i64 0,.slice none 0 0,.int .i64 0,.int .i64 0,.int .i64 0,.bool false,.slice none 0 0,.int .i64 0,.slice none 0 0,.slice none 0 0,.slice none 0 0,.int .i64 0,.int .i64 0,.int .i64 0,.int .i64 0,.int .i64 0,.bool false,.slice none 0 0]),.agg [(0,26,4),(4,68,12),(16,65,1),(17,63,6),(23,65,1)] true⟩
        (.leaf)
        (.leaf)))
      (.node 197 ⟨3,32,some (.agg #[.string ByteArray.empty,.int .i64 0,.int .i64 0]),.agg [(0,9,1),(1,3,1),(2,3,1)] true⟩
       (.node 196 ⟨3,32,some (.agg #[.string ByteArray.empty,.int .i64 0,.int .i64 0]),.agg [(0,9,1),(1,3,1),(2,3,1)] true⟩
        (.leaf)
        (.leaf))
       (.leaf)))
     (.node 217 ⟨8,112,some (.agg #[.slice none 0 0,.slice none 0 0,.slice none 0 0,.map none,.int .u64 0,.int .u64 0,.int .u64 0,.int .i64 0]),.agg [(0,45,1),(1,29,1),(2,59,1),(3,160,1),(4,102,1),(5,102,1),(6,102,1),(7,3,1)] true⟩
      (.node 206 ⟨1,0,some (.tuple #[.agg #[.slice none 0 0,.slice none 0 0,.int .i64 0],.int .i64 0]),.scalar⟩
       (.node 201 ⟨1,8,some (.nilFunc),.scalar⟩
        (.leaf)
        (.leaf))
       (.leaf))
      (.node 219 ⟨1,0,some (.tuple #[.pointer none,.agg #[.int .i64 0,.int .i64 0],.int .i64 0]),.scalar⟩
       (.node 218 ⟨8,112,some (.agg #[.slice none 0 0,.slice none 0 0,.slice none 0 0,.map none,.int .u64 0,.int .u64 0,.int .u64 0,.int .i64 0]),.agg [(0,45,1),(1,29,1),(2,59,1),(3,160,1),(4,102,1),(5,102,1),(6,102,1),(7,3,1)] true⟩
        (.leaf)
        (.leaf))
       (.leaf))))
    (.node 237 ⟨7,64,some (.agg #[.string ByteArray.empty,.int .i64 0,.int .i64 0,.int .i64 0,.int .i64 0,.bool false,.bool false]),.agg [(0,9,1),(1,3,1),(2,44,4),(6,4,1)] true⟩
     (.node 227 ⟨5,40,some (.agg #[.int .i64 0,.int .i64 0,.int .u64 0,.int .u64 0,.int .i64 0]),.agg [(0,3,1),(1,3,1),(2,102,1),(3,102,1),(4,3,1)] true⟩
      (.node 225 ⟨3,40,some (.agg #[.pointer none,.int .i64 0,.slice none 0 0]),.agg [(0,103,1),(1,3,1),(2,223,1)] true⟩
       (.node 224 ⟨3,40,some (.agg #[.pointer none,.int .i64 0,.slice none 0 0]),.agg [(0,103,1),(1,3,1),(2,223,1)] true⟩
        (.leaf)
        (.leaf))
       (.node 226 ⟨1,8,some (.nilFunc),.scalar⟩
        (.leaf)
        (.leaf)))
      (.node 236 ⟨7,64,some (.agg #[.string ByteArray.empty,.int .i64 0,.int .i64 0,.int .i64 0,.int .i64 0,.bool false,.bool false]),.agg [(0,9,1),(1,3,1),(2,44,4),(6,4,1)] true⟩
       (.node 228 ⟨5,40,some (.agg #[.int .i64 0,.int .i64 0,.int .u64 0,.int .u64 0,.int .i64 0]),.agg [(0,3,1),(1,3,1),(2,102,1),(3,102,1),(4,3,1)] true⟩
        (.leaf)
        (.leaf))
       (.leaf)))
     (.node 245 ⟨1,0,some (.tuple #[.int .i64 0,.bool false]),.scalar⟩
      (.node 244 ⟨1,8,some (.int .i64 0),.int .i64⟩
       (.node 240 ⟨1,8,some (.pointer none),.ptr 68⟩
        (.leaf)
        (.leaf))
       (.leaf))
      (.node 248 ⟨1,0,some (.tuple #[.bool false,.bool false]),.scalar⟩
       (.node 247 ⟨1,8,some (.nilFunc),.scalar⟩
        (.leaf)
        (.leaf))
       (.leaf)))))
   (.node 326 ⟨2,16,some (.agg #[.int .i64 0,.int .i64 0]),.agg [(0,3,1),(1,3,1)] true⟩
    (.node 305 ⟨1,8,some (.nilFunc),.scalar⟩
     (.node 265 ⟨1,8,some (.nilFunc),.scalar⟩
      (.node 254 ⟨1,0,some (.tuple #[.agg #[.int .i64 0,.int .i64 0,.int .i64 0,.bool false],.bool false]),.scalar⟩
       (.node 253 ⟨1,8,some (.nilFunc),.scalar⟩
        (.leaf)
        (.leaf))
       (.node 258 ⟨1,8,some (.nilFunc),.scalar⟩
        (.leaf)
        (.leaf)))
      (.node 304 ⟨1,8,some (.nilFunc),.scalar⟩
       (.node 302 ⟨1,0,some (.tuple #[.agg #[.int .i64 0,.int .i64 0],.int .i64 0]),.scalar⟩
        (.leaf)
        (.leaf))
       (.leaf)))
     (.node 310 ⟨10,96,some (.agg #[.int .u64 0,.bool false,.slice none 0 0,.int .u64 0,.int .u64 0,.int .u64 0,.int .u64 0,.int .u64 0,.int .u64 0,.pointer none]),.agg [(0,102,1),(1,4,1),(2,308,1),(3,118,6),(9,309,1)] true⟩
      (.node 309 ⟨1,8,some (.pointer none),.ptr 378⟩
       (.node 308 ⟨1,24,some (.slice none 0 0),.sl 381⟩
        (.leaf)
        (.leaf))
       (.leaf))
      (.node 325 ⟨1,24,some (.slice none 0 0),.sl 327⟩
       (.node 311 ⟨10,96,some (.agg #[.int .u64 0,.bool false,.slice none 0 0,.int .u64 0,.int .u64 0,.int .u64 0,.int .u64 0,.int .u64 0,.int .u64 0,.pointer none]),.agg [(0,102,1),(1,4,1),(2,308,1),(3,118,6),(9,309,1)] true⟩
        (.leaf)
        (.leaf))
       (.leaf))))
    (.node 353 ⟨1,8,some (.nilFunc),.scalar⟩
     (.node 330 ⟨1,8,some (.nilFunc),.scalar⟩
      (.node 329 ⟨1,8,some (.nilFunc),.scalar⟩
       (.node 327 ⟨2,16,some (.agg #[.int .i64 0,.int .i64 0]),.agg [(0,3,1),(1,3,1)] true⟩
        (.leaf)
        (.leaf))
       (.leaf))
      (.node 347 ⟨1,8,some (.nilFunc),.scalar⟩
       (.node 339 ⟨1,8,some (.int .u64 0),.int .u64⟩
        (.leaf)
        (.leaf))
       (.leaf)))
     (.node 360 ⟨2,16,some (.agg #[.int .i64 0,.int .i64 0]),.agg [(0,3,1),(1,3,1)] true⟩
      (.node 359 ⟨2,16,some (.agg #[.int .i64 0,.int .i64 0]),.agg [(0,3,1),(1,3,1)] true⟩
       (.node 355 ⟨1,24,some (.slice none 0 0),.sl 362⟩
        (.leaf)
        (.leaf))
       (.leaf))
      (.node 362 ⟨4,32,some (.agg #[.int .i64 0,.int .i64 0,.int .i64 0,.int .i64 0]),.agg [(0,327,2),(2,360,2)] true⟩
       (.node 361 ⟨4,32,some (.agg #[.int .i64 0,.int .i64 0,.int .i64 0,.int .i64 0]),.agg [(0,327,2),(2,360,2)] true⟩
        (.leaf)
        (.leaf))
       (.leaf))))))
  (.node 423 ⟨1,8,some (.map none),.map 3 3⟩
   (.node 393 ⟨1,8,some (.nilFunc),.scalar⟩
    (.node 386 ⟨1,8,some (.pointer none),.ptr 388⟩
     (.node 378 ⟨3,24,some (.agg #[.int .u64 0,.int .i64 0,.int .i64 0]),.agg [(0,102,1),(1,3,1),(2,3,1)] true⟩
      (.node 371 ⟨1,8,some (.pointer none),.ptr 228⟩
       (.node 370 ⟨1,8,some (.nilFunc),.scalar⟩
        (.leaf)
        (.leaf))
       (.node 377 ⟨3,24,some (.agg #[.int .u64 0,.int .i64 0,.int .i64 0]),.agg [(0,102,1),(1,3,1),(2,3,1)] true⟩
        (.leaf)
        (.leaf)))
      (.node 381 ⟨7,72,some (.agg #[.int .i64 0,.slice none 0 0,.bool false,.int .i64 0,.int .u64 0,.int .i64 0,.int .i64 0]),.agg [(0,3,1),(1,59,1),(2,4,1),(3,3,1),(4,102,1),(5,3,1),(6,3,1)] true⟩
       (.node 380 ⟨7,72,some (.agg #[.int .i64 0,.slice none 0 0,.bool false,.int .i64 0,.int .u64 0,.int .i64 0,.int .i64 0]),.agg [(0,3,1),(1,59,1),(2,4,1),(3,3,1),(4,102,1),(5,3,1),(6,3,1)] true⟩
        (.leaf)
        (.leaf))
       (.leaf)))
     (.node 389 ⟨5,88,some (.agg #[.pointer none,.slice none 0 0,.slice none 0 0,.slice none 0 0,.int .i64 0]),.agg [(0,386,1),(1,26,4)] true⟩
      (.node 388 ⟨1,24,some (.agg #[.slice none 0 0]),.agg [(0,59,1)] true⟩
       (.node 387 ⟨1,24,some (.agg #[.slice none 0 0]),.agg [(0,59,1)] true⟩
        (.leaf)
        (.leaf))
       (.leaf))
      (.node 392 ⟨1,8,some (.nilFunc),.scalar⟩
       (.node 390 ⟨5,88,some (.agg #[.pointer none,.slice none 0 0,.slice none 0 0,.slice none 0 0,.int .i64 0]),.agg [(0,386,1),(1,26,4)] true⟩
        (.leaf)
        (.leaf))
       (.leaf))))
    (.node 411 ⟨1,8,some (.nilFunc),.scalar⟩
     (.node 405 ⟨1,0,some (.tuple #[.int .u64 0,.int .u64 0]),.scalar⟩
      (.node 402 ⟨1,0,some (.tuple #[.int .u64 0,.int .u64 0]),.scalar⟩
       (.node 399 ⟨1,0,some (.tuple #[.slice none 0 0,.slice none 0 0,.int .i64 0]),.scalar⟩
        (.leaf)
        (.leaf))
       (.leaf))
      (.node 409 ⟨1,8,some (.nilFunc),.scalar⟩
       (.node 408 ⟨1,8,some (.nilFunc),.scalar⟩
        (.leaf)
        (.leaf))
       (.leaf)))
     (.node 418 ⟨2,16,some (.agg #[.int .i64 0,.int .i64 0]),.arr 2 3⟩
      (.node 416 ⟨1,8,some (.nilFunc),.scalar⟩
       (.node 415 ⟨1,8,some (.nilFunc),.scalar⟩
        (.leaf)
        (.leaf))
       (.leaf))
      (.node 421 ⟨1,8,some (.nilFunc),.scalar⟩
       (.node 419 ⟨1,8,some (.nilFunc),.scalar⟩
        (.leaf)
        (.leaf))
       (.leaf)))))
   (.node 455 ⟨1,24,some (.slice none 0 0),.sl 5⟩
    (.node 437 ⟨1,8,some (.nilFunc),.scalar⟩
     (.node 427 ⟨1,4,some (.int .u32 0),.int .u32⟩
      (.node 425 ⟨1,8,some (.nilFunc),.scalar⟩
       (.node 424 ⟨1,8,some (.nilFunc),.scalar⟩
        (.leaf)
        (.leaf))
       (.node 426 ⟨4,32,some (.agg #[.int .i64 0,.int .i64 0,.int .i64 0,.bool false]),.agg [(0,3,1),(1,3,1),(2,3,1),(3,4,1)] true⟩
        (.leaf)
        (.leaf)))
      (.node 436 ⟨1,8,some (.nilFunc),.scalar⟩
       (.node 428 ⟨1,0,some (.tuple #[.int .u32 0,.int .u32 0]),.scalar⟩
        (.leaf)
        (.leaf))
       (.leaf)))
     (.node 441 ⟨1,8,some (.nilFunc),.scalar⟩
      (.node 439 ⟨1,0,some (.tuple #[.int .i64 0,.int .i64 0]),.scalar⟩
       (.node 438 ⟨1,8,some (.int .i64 0),.int .i64⟩
        (.leaf)
        (.leaf))
       (.leaf))
      (.node 452 ⟨1,8,some (.pointer none),.ptr 3⟩
       (.node 449 ⟨1,8,some (.int .u64 0),.int .u64⟩
        (.leaf)
        (.leaf))
       (.leaf))))
    (.node 477 ⟨1,8,some (.nilFunc),.scalar⟩
     (.node 460 ⟨1,8,some (.nilFunc),.scalar⟩
      (.node 458 ⟨1,8,some (.nilFunc),.scalar⟩
       (.node 456 ⟨1,0,some (.tuple #[.slice none 0 0,.int .i64 0]),.scalar⟩
        (.leaf)
        (.leaf))
       (.leaf))
      (.node 463 ⟨1,0,some (.tuple #[.int .i64 0,.int .i64 0]),.scalar⟩
       (.node 462 ⟨1,8,some (.pointer none),.ptr 449⟩
        (.leaf)
        (.leaf))
       (.leaf)))
     (.node 485 ⟨0,0,some (.agg #[]),.arr 0 16⟩
      (.node 480 ⟨1,8,some (.nilFunc),.scalar⟩
       (.node 478 ⟨5,20,some (.agg #[.int .u32 0,.int .u32 0,.int .u32 0,.int .u32 0,.int .u32 0]),.arr 5 427⟩
        (.leaf)
        (.leaf))
       (.leaf))
      (.node 487 ⟨0,0,some (.agg #[]),.agg [(0,485,0)] false⟩
       (.node 486 ⟨0,0,some (.agg #[]),.agg [(0,485,0)] false⟩
        (.leaf)
        (.leaf))
       (.leaf)))))))
theorem zh:yA Tryz.prog tb:=ztg (by kernel_rfl)
set_option maxHeartbeats 20000000
def object (t:Ty):Bool:=!t.ref&&(decide (0 < t.dims)||t.kind==4||t.kind==5||t.kind==7||t.kind==8)
theorem zfM (t:Ty):ACall Tryz.prog 63 [yK t] (pb (object t)):=by
 refine zf zh Tryz.func63 rfl (by kernel_rfl) Tryz.ntmps63 (by simp) _ rfl (fun hw gB hgB=>?_)
 repeat' (first|refine sA ?_|refine sC (fun _=>?_) (fun _=>?_)|fail)
 all_goals (first|refine retq rfl ?_|refine zb0 rfl ?_)
 all_goals (first|(simp_all [zn,object];done)|(simp_all [zn,object];omega))
def there (g:Img) (t:Int):Bool:=decide (0≤t)&&decide (t < g.types.length)
theorem Yq (g:Img) (t:Int):ACall Tryz.prog 247 [zx g,pi t] (pb (there g t)):=by
 refine zf zh Tryz.func247 rfl (by kernel_rfl) Tryz.ntmps247 (by simp) _ rfl (fun hw gB hgB=>?_)
 repeat' (first|refine sA ?_|refine sC (fun _=>?_) (fun _=>?_)|fail)
 all_goals (first|refine retq rfl ?_|refine zb0 rfl ?_)
 all_goals (first|(simp_all [zn,there];done)|(simp_all [zn,there];omega))
def bit (f k:Int):Bool:=f.tdiv k % 2==1
def plain (t:Ty) (k:Int):Bool:=t.kind==k&&t.dims==0&&!t.ref
theorem Vq (t:Ty) (k:Int):ACall Tryz.prog 148 [yK t,pi k] (pb (plain t k)):=by
 refine zf zh Tryz.func148 rfl (by kernel_rfl) Tryz.ntmps148 (by simp) _ rfl (fun hw gB hgB=>?_)
 repeat' (first|refine sA ?_|refine sC (fun _=>?_) (fun _=>?_)|fail)
 all_goals (first|refine retq rfl ?_|refine zb0 rfl ?_)
 all_goals (first|(simp_all [zn,plain];done)|(simp_all [zn,plain];omega))
theorem znL:ACall Tryz.prog 150 [] (yK ⟨7,0,0,false⟩):=by
 refine zf zh Tryz.func150 rfl (by kernel_rfl) Tryz.ntmps150 (by simp) _ rfl (fun hw gB hgB=>?_)
 repeat' (first|refine sA ?_|refine sC (fun _=>?_) (fun _=>?_)|fail)
 exact retq rfl rfl
set_option maxHeartbeats 20000000
theorem zhv {l:List Int} (h:(ints l).lenOk):l.length≤9223372036854775807:=by
 simp [ints,PV.lenOk,maxLen] at h;exact h.1
theorem YN {l:List Int} {k:Nat} (h:k < l.length):(l.map pi)[k]?=some (pi l[k]):=by simp [h]
theorem zpd {l:List Ty} {k:Nat} (h:k < l.length):(l.map yK)[k]?=some (yK l[k]):=by simp [h]
theorem ziq {α:Type} [DecidableEq α] {l:List α} {k:Nat} {n:α} (h:k < l.length) (hno:n∉l.take k) (hne:¬ l[k]=n):n∉l.take (k + 1):=by
 rw [List.take_succ_eq_append_getElem h]
 simp only [List.mem_append,List.mem_singleton,not_or]
 exact ⟨hno,fun e=>hne e.symm⟩
def idx (l:List Int) (v:Int):Int:=if v∈l then (l.findIdx (· == v):Nat) else -1
theorem zhW (l:List Int) (n:Int):ACall Tryz.prog 355 [ints l,pi n] (pi (idx l n)):=by
 refine zf zh Tryz.func355 rfl (by kernel_rfl) Tryz.ntmps355 (by simp) _ rfl (fun hw gB hgB=>?_)
 have hl:=zhv hw.1
 repeat' (first|refine sA ?_|refine sC (fun _=>?_) (fun _=>?_)|fail)
 refine zB (fun k:Nat=>[(0,.pv (ints l)),(1,.pv (pi n)),(7,.pv (pi l.length)),(8,.pv (pi k))]) (fun _=>[]) (fun k=>k≤l.length∧n∉l.take k) (fun k=>l.length - k) 0 ⟨by simp,by simp⟩ (by repeat (first|exact yu|refine zY rfl ?_|(refine qK rfl ?_ ?_;· simp))) tH ?_
 rintro k ⟨hk,hno⟩
 by_cases hlt:k < l.length
 ·have he:=YN hlt
  repeat' (first|(refine shX ?_;first|refine qX he ?_)|refine sK ?_|refine sC (fun _=>?_) (fun _=>?_)|fail)
  ·rename_i h
   refine retq rfl ?_
   simp at h
   have hm:n∈l:=by have:=List.getElem_mem hlt;rwa [←h] at this
   have hi:l.findIdx (· == n)=k:=by
    rw [List.findIdx_eq hlt]
    refine ⟨by simp [h],fun j hj=>?_⟩
    simp only [beq_eq_false_iff_ne]
    intro e
    refine hno ?_
    rw [←e,List.mem_take_iff_getElem]
    exact ⟨j,by omega,rfl⟩
   simp [zn,idx,hm,hi]
  ·rename_i h
   simp at h
   exact ⟨k + 1,⟨by omega,ziq hlt hno (fun e=>h e.symm)⟩,tD,tS,tH⟩
 ·repeat' (first|refine sK ?_|refine sC (fun _=>?_) (fun _=>?_)|fail)
  refine retq rfl ?_
  have:n∉l:=by rw [List.take_of_length_le (by omega)] at hno;exact hno
  simp [zn,idx,this]
theorem YC (l:List Int) (n:Int):ACall Tryz.prog 268 [ints l,pi n] (pb (decide (n∈l))):=by
 refine zf zh Tryz.func268 rfl (by kernel_rfl) Tryz.ntmps268 (by simp) _ rfl (fun hw gB hgB=>?_)
 repeat' (first|(refine shC ?_;first|refine qC (zhW _ _) ?_)|refine sA ?_|refine sC (fun _=>?_) (fun _=>?_)|fail)
 refine retq rfl ?_
 by_cases h:n∈l <;> simp [zn,idx,h]
def bounds (c:Cl) (part:Int):Int × Int :=
 if part==1 then (c.tf,c.tt) else if part==2 then (c.hf,c.ht) else if c.kind==2 then (c.filter,c.hf) else (0,0)
def meet (a:Cl) (p:Int) (b:Cl) (q:Int):Bool :=
 decide ((bounds a p).1 < (bounds b q).2)&&decide ((bounds b q).1 < (bounds a p).2)&&decide ((bounds a p).1 < (bounds a p).2)&&decide ((bounds b q).1 < (bounds b q).2)
def within (a:Cl) (p:Int) (b:Cl) (q:Int):Bool :=
 if (bounds a p).1==0&&(bounds a p).2==0 then true
 else decide ((bounds b q).1≤(bounds a p).1)&&decide ((bounds a p).2≤(bounds b q).2)&&(decide ((bounds b q).1 < (bounds a p).1)||decide ((bounds a p).2 < (bounds b q).2))
theorem zkV {l:List Ty} (h:(tys l).lenOk):l.length≤9223372036854775807:=by
 simp [tys,PV.lenOk,maxLen] at h;exact h.1
theorem zk6 {α:Type} {a b:List α} {k:Nat} (ha:k < a.length) (hb:k < b.length) (h:a.take k=b.take k) (e:a[k]=b[k]):a.take (k + 1)=b.take (k + 1):=by
 rw [List.take_succ_eq_append_getElem ha,List.take_succ_eq_append_getElem hb,h,e]
def Zv (t:Ty):Bool :=
 if decide (t.dims < 0)||decide (3 < t.dims)||decide (t.index < 0) then false
 else if t.kind==1 then t.dims==0&&!t.ref&&t.index==0
 else if t.kind==2||t.kind==3||t.kind==4 then t.index==0
 else if t.kind==5||t.kind==6 then decide (t.index < 32)
 else if t.kind==7 then decide (t.index≤7)
 else false
def Zx (t:Ty) (place:Int):Bool :=
 if !Zv t then false
 else if place==1 then t.kind != 1&&!t.ref
 else if place==2 then t.kind != 1
 else if place==3 then !t.ref
 else true
def zil (t:Ty) (n:Int):Bool:=(t.kind != 5&&t.kind != 6)||decide (t.index < n)
def XY (t:Ty) (p n:Int):Bool:=Zx t p&&zil t n
def ze8 (n:Int) (c:Cl):Bool:=decide (0≤c.tf)&&decide (c.tf < c.tt)&&decide (c.tt≤n)
def zeT (n:Int) (c:Cl):Bool:=decide (0≤c.hf)&&decide (c.hf < c.ht)&&decide (c.ht≤n)
def Xm (n:Int) (c:Cl):Int :=
 if decide (c.kind < 1)||decide (4 < c.kind)||!ze8 n c||!zeT n c then 3
 else if c.kind==2&&(decide (c.filter < 0)||decide (c.hf≤c.filter))||c.kind != 2&&c.filter != -1 then 3
 else if meet c 1 c 2||meet c 1 c 3||meet c 2 c 3 then 12
 else 0
def zfN (a b:Cl) (q:Int):Bool:=decide ((bounds b q).1 < (bounds b q).2)&&within a 1 b q&&within a 2 b q&&within a 3 b q
def zsD (a b:Cl) (q:Int):Bool:=q==1||!(a.hf==(bounds b q).1||a.kind==2&&a.filter==(bounds b q).1)
def badM (a b:Cl) (p q:Int):Bool:=meet a p b q&&!((a.tf==b.tf&&a.tt==b.tt)&&p==1&&q==1)
def zdg (a b:Cl):Bool :=
 if zfN a b 1 then zsD a b 1 else if zfN a b 2 then zsD a b 2 else if zfN a b 3 then zsD a b 3
 else !(badM a b 1 1||badM a b 1 2||badM a b 1 3||badM a b 2 1||badM a b 2 2||badM a b 2 3||badM a b 3 1||badM a b 3 2||badM a b 3 3)
end Go.Cg
set_option linter.unusedVariables false
set_option linter.unusedSimpArgs false
namespace Go.Cg
open Go.Proofs Go.Shelf Go.RowKit Go.Lib
set_option maxHeartbeats 20000000
theorem zve:∃ i,Tryz.prog.info? 44=some i∧i.zero=some (.agg #[.int .i64 0,.int .i64 0,.int .i64 0,.bool false])∧i.size=4∧i.bytes=32:=by
 obtain ⟨i,h1,h2,h3,h4,_⟩:=Zg (t:=44) zh rfl
 exact ⟨i,h1,h4,h2,h3⟩
def zTy:Value:=.agg #[.int .i64 0,.int .i64 0,.int .i64 0,.bool false]
set_option maxRecDepth 100000 in
theorem zrp (n:Nat) (hn0:0 < n) (hn:n≤1000) (w:World) :
  Calls Tryz.prog 342 #[.slice none 0 0,.int .i64 n] w fun e w'=>e=.returned (.slice (some ⟨w.heap.size,0,none⟩) 0 (grownCap w n 0 44)) ∧
   w'=w.drew.alloc (.cells (Builtin.zeroCells zTy.cells n++Builtin.zeroCells zTy.cells (grownCap w n 0 44 - n)) 44):=by
 obtain ⟨i0,hi0,hz0,hs0,hb0⟩:=zve
 have u40:=run_underlying Tryz.underlying65
 have u3:=run_underlying Tryz.underlying3
 have h1:¬ ((n:Int) < 0):=by omega
 have h2:wrap64 ((0:Int) - 0)=0:=by unfold wrap64;omega
 have h3:wrap64 ((n:Int) - 0)=(n:Int):=by unfold wrap64;omega
 have h4:(n:Int) > 0:=by omega
 have z28:∀ w,(Go.sizeOf 44).run Tryz.prog w=.ok i0.size w:=fun w=>by simp [Go.sizeOf,typeInfo,hi0]
 have hold:(Builtin.firstCells i0.size 0 (.slice none 0 0)).run Tryz.prog w.drew=.ok #[] w.drew:=run_firstCells_none w.drew i0.size 0 0 0
 have hrz:∀ ty,(Builtin.append_ #[65,3] ty #[.slice none 0 0,.int .i64 (n:Int)]).run Tryz.prog w =
   .ok (.slice (some ⟨w.heap.size,0,none⟩) n (grownCap w n 0 44)) (w.drew.alloc (.cells (Builtin.zeroCells zTy.cells n++Builtin.zeroCells zTy.cells (grownCap w n 0 44 - n)) 44)):=fun ty=>by
  have h:=Lib.run_append_grow_zeros w 65 3 ty 44 i0 zTy .i64 .i64 Tryz.underlying65 Tryz.underlying3 hi0 hz0 none 0 0 [] hold n hn0 (by omega) (by omega) (by omega)
   (by rw [hb0];omega)
   (by rw [Nat.zero_add];exact growslice_fits hn0 (by rw [hb0];omega))
  rw [Nat.zero_add] at h
  simpa using h
 have hGn:n≤grownCap w n 0 44:=grownCap_ge w _ _ _
 obtain ⟨G,hG⟩:∃ G,G=grownCap w n 0 44:=⟨_,rfl⟩
 rw [←hG] at hrz hGn ⊢
 have hG63:G≤9223372036854775807:=by
  have:=grownCap_le_maxLen w n 0 44 (by unfold maxLen;omega)
  rw [←hG] at this
  unfold maxLen at this
  omega
 clear hold hG
 go_enter Tryz.func342,Tryz.ntmps342
 go_wp2_with (at_builtin;refine Lib.wpList_append_run _ rfl _ _ _ _ rfl _ _ rfl rfl _ _ (hrz _) ?_)
 all_goals (go_ret;exact ⟨rfl,rfl⟩)
theorem zqi (w:World):Calls Tryz.prog 342 #[.slice none 0 0,.int .i64 0] w fun e w'=>e=.returned (.slice none 0 0)∧w'=w:=by
 have u40:=run_underlying Tryz.underlying65
 have u3:=run_underlying Tryz.underlying3
 go_enter Tryz.func342,Tryz.ntmps342
 go_wp2
 go_ret
 exact ⟨rfl,rfl⟩
theorem zjs (m:Int) (h0:0≤m) (h1:m≤1000):ACallR Tryz.prog 342 [.base (.slice none 0 0),pi m] 44 4 []:=by
 refine ⟨⟨_,Tryz.func342,rfl,by kernel_rfl⟩,fun K w vs hl hv=>?_⟩
 obtain ⟨v0,vs0,rfl,r0,hv0⟩:=hv.cons_inv
 obtain ⟨v1,vs1,rfl,r1,hv1⟩:=hv0.cons_inv
 obtain rfl:=hv1.nil_inv
 cases r0
 cases r1
 obtain ⟨n,rfl⟩:=Int.eq_ofNat_of_zero_le h0
 by_cases hn:n=0
 ·subst hn
  refine (zqi w).mono ?_
  rintro e w' ⟨rfl,rfl⟩
  exact ⟨_,K,[],rfl,.refl hl,World.ownsRow_nil _ _ _ _,fun i e h=>by simp at h,by simp [Value.ownBlock]⟩
 ·refine (zrp n (by omega) (by omega) w).mono ?_
  rintro e w' ⟨rfl,rfl⟩
  have hev:Evo K K w (w.drew.alloc (.cells (Builtin.zeroCells zTy.cells n++Builtin.zeroCells zTy.cells (grownCap w n 0 44 - n)) 44)) :=
   (Evo.refl hl).drew.trans ⟨(Below.refl _ _).alloc (Nat.le_refl _) _,fun _ _ h=>h,fun _ _ h=>.inl h,fun b o h=>by have:=hl b o h;simp;omega⟩
  have hG:=grownCap_ge w n 0 44
  refine ⟨_,K,[],rfl,hev,?_,fun i e h=>by simp at h,?_⟩
  ·refine ⟨rfl,.inr ⟨w.heap.size,grownCap w n 0 44,_,rfl,Nat.le_refl _,by simpa using heap_alloc_new w.drew _,by simp,grownCap_le_maxLen w n 0 44 (by unfold maxLen;omega),?_,rfl⟩⟩
   simp [size_zeroCells,zTy,Value.cells]
   omega
  ·intro b hb o
   simp [Value.ownBlock] at hb
   subst hb
   refine ⟨fun h=>?_,fun h=>by simp at h⟩
   have:=hl _ _ h
   omega
end Go.Cg
namespace Go.Cg
open Go.Proofs
def cls (l:List Cl):PV:=.slc 10 (l.map ZJ) false
theorem zpD {l:List Cl} (h:(cls l).lenOk):l.length≤9223372036854775807:=by
 simp [cls,PV.lenOk,maxLen] at h;exact h.1
theorem zcj {l:List Cl} {k:Nat} (h:k < l.length):(l.map ZJ)[k]?=some (ZJ (l.getD k default)):=by simp [h]
def WQ (l:List Cl) (i m:Nat):Bool:=(List.range m).any fun k=>!zdg (l.getD k default) (l.getD i default)
theorem zkA (l:List Cl) (i m:Nat):WQ l i (m + 1)=(WQ l i m||!zdg (l.getD m default) (l.getD i default)):=by simp [WQ,List.range_succ]
def QK (n:Int) (l:List Cl) (i:Nat):Int :=
 if Xm n (l.getD i default) != 0 then Xm n (l.getD i default) else if WQ l i i then 12 else 0
def YG (n:Int) (l:List Cl):Int × Int :=
 if 6 < l.length then (0,4) else match (List.range l.length).find? (fun i=>QK n l i != 0) with
  | some i=>(((i:Nat):Int),QK n l i)
  | none=>(0,0)
theorem zhE {n:Int} {l:List Cl} {k:Nat} (h6:¬ 6 < l.length) (hk:k < l.length) (hno:∀ j,j < k→QK n l j=0) (h:QK n l k≠0):YG n l=(((k:Nat):Int),QK n l k):=by
 have:(List.range l.length).find? (fun i=>QK n l i != 0)=some k:=by
  rw [List.find?_range_eq_some]
  exact ⟨by simpa using h,by simpa using hk,fun j hj=>by simp [hno j hj]⟩
 simp [YG,h6,this]
theorem znO {n:Int} {l:List Cl} (h6:¬ 6 < l.length) (hno:∀ j,j < l.length→QK n l j=0):YG n l=(0,0):=by
 have:(List.range l.length).find? (fun i=>QK n l i != 0)=none:=by
  rw [List.find?_eq_none]
  intro j hj
  simp [hno j (List.mem_range.1 hj)]
 simp [YG,h6,this]
def zgt (n:Int) (l:List Cl):Bool:=(YG n l).2==0
set_option maxHeartbeats 20000000
theorem Xl (l:List Ty) (hb:l.length≤1000):ACall Tryz.prog 138 [tys l] (tys l):=by
 refine zf zh Tryz.func138 rfl (by kernel_rfl) Tryz.ntmps138 (by simp) _ rfl (fun hw gB hgB=>?_)
 repeat' (first|refine Qk zh rfl rfl rfl rfl rfl rfl rfl (fun bb hbb=>?_)|refine zo rfl (Qh zh rfl rfl rfl rfl rfl) rfl rfl ?_|(refine zL ?_;first|refine zo rfl (ZR zh rfl rfl (.inl rfl) rfl rfl (by show _ * 32≤_;simp;omega) (by simp;omega)) rfl rfl ?_)|refine sA ?_|refine sC (fun _=>?_) (fun _=>?_)|fail)
 ·rename_i h
  have:l=[]:=by have:=hbb h;simpa using this
  subst this
  exact Yl (t:=2) (ps:=[tys []]) rfl (qH 4 false) rfl rfl
 ·exact retq rfl rfl
theorem zgi (l:List Ty) (k:Int) (h:k < 0∨(l.length:Int) < k):ACall Tryz.prog 357 [tys l,pi k] (.tup [.base (.slice none 0 0),.base (.slice none 0 0),pi 9]):=by
 refine zf zh Tryz.func357 rfl (by kernel_rfl) Tryz.ntmps357 (by simp) _ rfl (fun hw gB hgB=>?_)
 have hl:=zkV hw.1
 rcases h with h|h
 ·repeat' (first|refine sK ?_|refine sC (fun _=>?_) (fun _=>?_)|fail)
  exact retq rfl rfl
 ·by_cases h2:k < 0
  ·repeat' (first|refine sK ?_|refine sC (fun _=>?_) (fun _=>?_)|fail)
   exact retq rfl rfl
  ·repeat' (first|refine sK ?_|refine sC (fun _=>?_) (fun _=>?_)|fail)
   exact retq rfl rfl
theorem zsX (l:List Ty) (k:Int) (hb:l.length≤1000) (h:0≤k) (h2:k≤l.length):ACall Tryz.prog 357 [tys l,pi k] (.tup [tys (l.take (l.length - k.toNat)),tys (l.drop (l.length - k.toNat)),pi 0]):=by
 refine zf zh Tryz.func357 rfl (by kernel_rfl) Tryz.ntmps357 (by simp) _ rfl (fun hw gB hgB=>?_)
 have hl:=zkV hw.1
 have hm:IntKind.i64.wrap (((l.map yK).length:Int) - k)=((l.length - k.toNat:Nat):Int):=by
  rw [List.length_map,wrap_in (by omega) (by omega)];omega
 repeat' (first|refine AD.step _ _ _ _ _ rfl (qY (xs:=l) (f:=yK) 0 (l.length - k.toNat) zh rfl rfl rfl rfl rfl rfl (congrArg some hm) (by omega) (by omega)) rfl rfl ?_|refine AD.step _ _ _ _ _ rfl (qY (xs:=l) (f:=yK) (l.length - k.toNat) l.length zh rfl rfl rfl rfl rfl (congrArg some hm) (by simp [YO]) (by omega) (by omega)) rfl rfl ?_|(refine shC ?_;first|refine zo rfl (qJ rfl rfl (Xl _ (by simp;omega))) rfl rfl ?_|refine AD.step _ _ _ _ _ rfl (qJ rfl rfl (Xl _ (by simp;omega))) rfl rfl ?_)|refine sK ?_|refine sC (fun _=>?_) (fun _=>?_)|fail)
 exact retq rfl (by simp [zn])
set_option maxHeartbeats 20000000
def zdy (a b:List Ty):Nat→Int
 | 0=>0
 | 1=>a.length
 | _=>a.length + b.length
def zoP (a b:List Ty):Nat→List Ty
 | 0=>[]
 | 1=>a
 | _=>a++b
theorem zf9 (a b:List Ty) (ha:a.length≤200) (hb:b.length≤200):ACall Tryz.prog 250 [.slc 1 [tys a,tys b] true] (tys (a++b)):=by
 refine zf zh Tryz.func250 rfl (by kernel_rfl) Tryz.ntmps250 (by simp) _ rfl (fun hw gB hgB=>?_)
 repeat' (first|refine sK ?_|refine sC (fun _=>?_) (fun _=>?_)|fail)
 refine zB (fun k:Nat=>[(0,.pv (.slc 1 [tys a,tys b] true)),(9,.pv (.slc 1 [tys a,tys b] true)),(10,.pv (pi 2)),(11,.pv (pi k)),(3,.pv (pi (zdy a b k)))]) (fun _=>[]) (fun k=>k≤2) (fun k=>2 - k) 0 (by omega) (tS) tH ?_
 intro k hk
 have hk3:k=0∨k=1∨k=2:=by omega
 rcases hk3 with rfl|rfl|rfl
 ·repeat' (first|refine zo rfl (zcU zh rfl (by first|omega|(simp [zdy] <;> omega)) (by first|omega|(simp [zdy] <;> omega))) rfl rfl ?_|(refine shX ?_;first|refine zo rfl (zl zh rfl rfl rfl rfl rfl rfl (by decide) rfl) rfl rfl ?_|refine AD.step _ _ _ _ _ rfl (zl zh rfl rfl rfl rfl rfl rfl (by decide) rfl) rfl rfl ?_)|refine sK ?_|refine sC (fun _=>?_) (fun _=>?_)|fail)
  exact ⟨1,by omega,tD,by repeat (first|exact yu|refine zY rfl ?_|(refine qK rfl ?_ ?_;· (first|(simp [zdy];done)|(simp [zdy];omega)|omega))),tH⟩
 ·repeat' (first|refine zo rfl (zcU zh rfl (by first|omega|(simp [zdy] <;> omega)) (by first|omega|(simp [zdy] <;> omega))) rfl rfl ?_|(refine shX ?_;first|refine zo rfl (zl zh rfl rfl rfl rfl rfl rfl (by decide) rfl) rfl rfl ?_|refine AD.step _ _ _ _ _ rfl (zl zh rfl rfl rfl rfl rfl rfl (by decide) rfl) rfl rfl ?_)|refine sK ?_|refine sC (fun _=>?_) (fun _=>?_)|fail)
  exact ⟨2,by omega,tD,by repeat (first|exact yu|refine zY rfl ?_|(refine qK rfl ?_ ?_;· (first|(simp [zdy];done)|(simp [zdy];omega)|omega))),tH⟩
 ·repeat' (first|(refine zy ?_;first|refine zb7 0 rfl rfl rfl (zjs _ (by simp [zdy];omega) (by simp [zdy];omega)) (by decide) rfl rfl rfl ?_)|refine sK ?_|refine sC (fun _=>?_) (fun _=>?_)|fail)
  refine zB (fun k:Nat=>[(6,.own 0),(25,.pv (.slc 1 [tys a,tys b] true)),(26,.pv (pi 2)),(27,.pv (pi k))]) (fun k=>[(0,.row 44 4 ((zoP a b k).map yK))]) (fun k=>k≤2) (fun k=>2 - k) 0 (by omega) (tS) tH ?_
  intro k hk
  have hk3:k=0∨k=1∨k=2:=by omega
  rcases hk3 with rfl|rfl|rfl
  ·repeat' (first|refine zo rfl (zcU zh rfl (by first|omega|(simp [zdy] <;> omega)) (by first|omega|(simp [zdy] <;> omega))) rfl rfl ?_|(refine shX ?_;first|refine zo rfl (zl zh rfl rfl rfl rfl rfl rfl (by decide) rfl) rfl rfl ?_|refine AD.step _ _ _ _ _ rfl (zl zh rfl rfl rfl rfl rfl rfl (by decide) rfl) rfl rfl ?_)|(refine zL ?_;first|refine zX zh rfl rfl rfl rfl rfl rfl rfl (by show _ * 32≤_;simp [zoP];omega) (by simp [zoP];omega) rfl rfl ?_)|refine sK ?_|refine sC (fun _=>?_) (fun _=>?_)|fail)
   exact ⟨1,by omega,tD,by repeat (first|exact yu|refine zY rfl ?_|(refine qK rfl ?_ ?_;· omega)),⟨zi rfl zk,rfl⟩⟩
  ·repeat' (first|refine zo rfl (zcU zh rfl (by first|omega|(simp [zdy] <;> omega)) (by first|omega|(simp [zdy] <;> omega))) rfl rfl ?_|(refine shX ?_;first|refine zo rfl (zl zh rfl rfl rfl rfl rfl rfl (by decide) rfl) rfl rfl ?_|refine AD.step _ _ _ _ _ rfl (zl zh rfl rfl rfl rfl rfl rfl (by decide) rfl) rfl rfl ?_)|(refine zL ?_;first|refine zX zh rfl rfl rfl rfl rfl rfl rfl (by show _ * 32≤_;simp [zoP];omega) (by simp [zoP];omega) rfl rfl ?_)|refine sK ?_|refine sC (fun _=>?_) (fun _=>?_)|fail)
   exact ⟨2,by omega,tD,by repeat (first|exact yu|refine zY rfl ?_|(refine qK rfl ?_ ?_;· omega)),⟨zi (by show some (HE.row 44 4 (_++_))=_;simp [zoP]) zk,rfl⟩⟩
  ·repeat' (first|refine sK ?_|refine sC (fun _=>?_) (fun _=>?_)|fail)
   exact retq rfl (by simp [zn,zoP,tys])
theorem zp5 (a b:List Ty) (m:Int) (ha:a.length≤200) (hb:b.length≤200) (h:(a.length + b.length:Int)≤m):ACall Tryz.prog 356 [tys a,pi m,tys b] (.tup [tys (a++b),pi 0]):=by
 refine zf zh Tryz.func356 rfl (by kernel_rfl) Tryz.ntmps356 (by simp) _ rfl (fun hw gB hgB=>?_)
 have hl:¬ (m < (((a++b).map yK).length:Int)):=by simp;omega
 repeat' (first|(refine shC ?_;first|refine qC (zf9 a b ha hb) ?_)|refine sK ?_|refine sC (fun _=>?_) (fun _=>?_)|fail)
 all_goals exact retq rfl (by simp [zn])
theorem zkd (a b:List Ty) (m:Int) (ha:a.length≤200) (hb:b.length≤200) (h:m < (a.length + b.length:Int)):ACall Tryz.prog 356 [tys a,pi m,tys b] (.tup [.base (.slice none 0 0),pi 9]):=by
 refine zf zh Tryz.func356 rfl (by kernel_rfl) Tryz.ntmps356 (by simp) _ rfl (fun hw gB hgB=>?_)
 have hl:m < (((a++b).map yK).length:Int):=by simp;omega
 repeat' (first|(refine shC ?_;first|refine qC (zf9 a b ha hb) ?_)|refine sK ?_|refine sC (fun _=>?_) (fun _=>?_)|fail)
 all_goals exact retq rfl (by simp [zn])
set_option maxHeartbeats 20000000
def yP (f k:Int):Bool:=(IntKind.i64.wrap (f.tdiv k)).tmod 2==1
def Wu (f:Int):Int:=if yP f 2 then 2 else if yP f 1 then 1 else if yP f 16 then 3 else 0
def typeAt (g:Img) (t:Int):Option TD:=if 0≤t then g.types[t.toNat]? else none
theorem QB (g:Img) (t:Int):there g t=true↔∃ td,typeAt g t=some td:=by
 simp only [there,typeAt,Bool.and_eq_true,decide_eq_true_eq]
 constructor
 ·rintro ⟨h1,h2⟩
  rw [if_pos h1]
  exact ⟨_,List.getElem?_eq_getElem (by omega)⟩
 ·rintro ⟨td,h⟩
  split at h
  ·rename_i h0
   have:=(List.getElem?_eq_some_iff.1 h).1
   omega
  ·cases h
theorem Yu {g:Img} {t:Int} {td:TD} (h:typeAt g t=some td):0≤t∧(g.types.map qU)[t.toNat]?=some (qU td):=by
 unfold typeAt at h
 split at h
 ·rename_i h0;exact ⟨h0,by simp [h]⟩
 ·cases h
def zF (g:Img) (t:Int):Int:=match typeAt g t with|some td=>Wu td.flags|none => -1
def qy (f k:Int):Bool:=IntKind.i64.wrap ((BitVec.ofInt IntKind.i64.bits f &&& BitVec.ofInt IntKind.i64.bits k).toNat:Int) != 0
def zgh (f:Int):Int:=if qy f 2 then 2 else if qy f 1 then 1 else if qy f 16 then 3 else 0
def YH (g:Img) (t:Int):Int:=match typeAt g t with|some td=>zgh td.flags|none => -1
theorem zfh (td:TD):ACall Tryz.prog 248 [qU td] (pi (zgh td.flags)):=by
 refine zf zh Tryz.func248 rfl (by kernel_rfl) Tryz.ntmps248 (by simp) _ rfl (fun hw gB hgB=>?_)
 repeat' (first|refine sA ?_|refine sC (fun _=>?_) (fun _=>?_)|fail)
 all_goals (refine retq rfl ?_)
 all_goals (simp_all [zgh,qy,zn])
theorem za2 (g:Img) (t:Int):ACall Tryz.prog 126 [zx g,pi t] (pi (YH g t)):=by
 refine zf zh Tryz.func126 rfl (by kernel_rfl) Tryz.ntmps126 (by simp) _ rfl (fun hw gB hgB=>?_)
 by_cases h:there g t=true
 ·have c1:ACall Tryz.prog 247 [zx g,pi t] (pb true):=by rw [←h];exact Yq g t
  obtain ⟨td,htd⟩:=(QB g t).1 h
  obtain ⟨h0,he⟩:=Yu htd
  repeat' (first|(refine shC ?_;first|refine qC c1 ?_|refine qC (zfh td) ?_)|(refine shX ?_;first|refine zo rfl (zl zh rfl rfl rfl rfl rfl rfl h0 he) rfl rfl ?_|refine AD.step _ _ _ _ _ rfl (zl zh rfl rfl rfl rfl rfl rfl h0 he) rfl rfl ?_)|refine sA ?_|refine sC (fun _=>?_) (fun _=>?_)|fail)
  exact retq rfl (by simp [zn,YH,htd])
 ·have c1:ACall Tryz.prog 247 [zx g,pi t] (pb false):=by rw [←Bool.eq_false_iff.2 h];exact Yq g t
  have hn:typeAt g t=none:=by
   cases e:typeAt g t with
   | none=>rfl
   | some td=>exact (h ((QB g t).2 ⟨td,e⟩)).elim
  repeat' (first|(refine shC ?_;first|refine qC c1 ?_)|refine sA ?_|refine sC (fun _=>?_) (fun _=>?_)|fail)
  exact retq rfl (by simp [zn,YH,hn])
def zrA (g:Img) (t:Ty):Bool:=plain t 5&&YH g t.index==0
end Go.Cg
set_option linter.unusedVariables false
set_option linter.unusedSimpArgs false
namespace Go.Cg
open Go.Proofs Go.Shelf Go.RowKit Go.Lib
set_option maxHeartbeats 20000000
theorem zqU (d:Int) (hd:d=0∨d=1∨d=2∨d=3) (w:World):Calls Tryz.prog 364 #[.int .u64 1,.int .u64 d] w fun e w'=>e=.returned (.tuple #[.int .u64 0,.int .u64 d])∧w'=w:=by
 rcases hd with rfl|rfl|rfl|rfl
 all_goals
  go_enter Tryz.func364,Tryz.ntmps364
  go_wp2
  go_ret2
  exact ⟨by kernel_rfl,rfl⟩
theorem zgA (d:Int) (hd:d=0∨d=1∨d=2∨d=3) (w:World):Calls Tryz.prog 366 #[.int .u64 1,.int .u64 d] w fun e w'=>e=.returned (.tuple #[.int .u64 0,.int .u64 d])∧w'=w:=by
 have h1:=zqU d hd
 go_enter Tryz.func366,Tryz.ntmps366
 go_wp2_with (refine (h1 _).mono ?_;rintro e w' ⟨rfl,rfl⟩)
 go_ret2
 exact ⟨rfl,rfl⟩
theorem info5:∃ i,Tryz.prog.info? 5=some i∧i.zero=some (.int .u8 0)∧i.size=1∧i.bytes=1:=by
 obtain ⟨i,h1,h2,h3,h4,_⟩:=Zg (t:=5) zh rfl
 exact ⟨i,h1,h4,h2,h3⟩
theorem Addr.add_zero' (a:Addr):a.add 0=a:=by cases a;rfl
theorem VF {w:World} {a:Addr} {v:Value} (o:Obj) (h:w.cell? a=some v):(w.alloc o).cell? a=some v:=by
 have hlt:a.block < w.heap.size:=by
  unfold World.cell? at h
  split at h
  ·rename_i hb;exact (Array.getElem?_eq_some_iff.1 hb).1
  ·cases h
 have hb:Below w.heap.size w (w.alloc o):=(Below.refl _ _).alloc (Nat.le_refl _) _
 unfold World.cell? at h ⊢
 rw [hb.block _ hlt];exact h
set_option maxRecDepth 100000 in
theorem zno (v:Int) (ad:Addr) (c:Nat) (w:World) (hv:w.cell? ad=some (.int .u8 v)):Calls Tryz.prog 470 #[.slice (some ad) 1 c,.int .i64 1] w fun e w' =>
  e=.returned (.slice (some ⟨w.heap.size,0,none⟩) 1 1)∧w'.heap[w.heap.size]?=some (.cells #[.int .u8 v] 5 (0,0))∧Below w.heap.size w w':=by
 obtain ⟨i0,hi0,hz0,hs0,hb0⟩:=info5
 have h1:=zgA 1 (by decide)
 have hmk:∀ w:World,(Instr.makeSlice 455 (.int .i64 1) (.int .i64 1)).run Tryz.prog w=.ok (.slice (some ⟨w.heap.size,0,none⟩) 1 1) (w.alloc (.cells #[.int .u8 0] 5)):=fun w=>by
  have:=run_makeSlice (P:=Tryz.prog) w 455 5 i0 (.int .u8 0) Tryz.underlying455 hi0 hz0 .i64 .i64 1 1 (by omega) (by omega) (by simp [hs0]) (by simp [hb0]) (by omega)
  rw [hs0] at this
  have e:madeCells (Value.int .u8 0).cells (Int.toNat 1 * 1)=#[.int .u8 0]:=by simp [madeCells,Value.cells,Array.range];rfl
  rw [e] at this
  exact this
 have hsz:(Tryz.prog.info? 5).map (·.size)=some 1:=by rw [hi0];simp [hs0]
 go_enter Tryz.func470,Tryz.ntmps470
 go_wp2_with (first|(refine (h1 _).mono ?_;rintro e w2 ⟨rfl,hw2⟩;rw [hw2];clear hw2 w2)|(refine wpList_copy_splice rfl _ _ _ _ rfl 5 Tryz.underlying455 hsz _ _ _ _ _ _ rfl rfl w.heap.size 0 [.int .u8 0] 5 ?_ [.int .u8 v] (by rfl) ?_ (by simp) (by simp [Value.oneCell']) w.heap.size w ?_ (Nat.le_refl _) ?_))
 ·exact heap_alloc_new w _
 ·intro j u hj
  cases j with
  | zero =>
   simp at hj;subst hj
   rw [Addr.add_zero',VF _ hv]
  | succ j=>simp at hj
 ·exact (Below.refl _ _).alloc (Nat.le_refl _) _
 ·intro w2 hh hb
  go_wp2
  refine wp_loop_once ?_
  go_wp2
  go_ret
  exact ⟨rfl,by simpa [splice] using (show _=_ from hh),hb⟩
end Go.Cg
set_option linter.unusedVariables false
set_option linter.unusedSimpArgs false
namespace Go.Cg
open Go.Proofs Go.Shelf Go.RowKit Go.Lib
set_option maxHeartbeats 4000000 in
set_option maxRecDepth 100000 in
theorem zmn (v:Int) (ad:Addr) (c:Nat) (w:World) (hv:w.cell? ad=some (.int .u8 v)):Calls Tryz.prog 470 #[.slice (some ad) 1 c,.int .i64 2] w fun e w' =>
  e=.returned (.slice (some ⟨w.heap.size,0,none⟩) 2 2)∧w'.heap[w.heap.size]?=some (.cells #[.int .u8 v,.int .u8 v] 5 (0,0))∧Below w.heap.size w w':=by
 obtain ⟨i0,hi0,hz0,hs0,hb0⟩:=info5
 have h1:=zgA 2 (by decide)
 have hmk:∀ w:World,(Instr.makeSlice 455 (.int .i64 2) (.int .i64 2)).run Tryz.prog w=.ok (.slice (some ⟨w.heap.size,0,none⟩) 2 2) (w.alloc (.cells #[.int .u8 0,.int .u8 0] 5)):=fun w=>by
  have:=run_makeSlice (P:=Tryz.prog) w 455 5 i0 (.int .u8 0) Tryz.underlying455 hi0 hz0 .i64 .i64 2 2 (by omega) (by omega) (by simp [hs0]) (by simp [hb0]) (by omega)
  rw [hs0] at this
  have e:madeCells (Value.int .u8 0).cells (Int.toNat 2 * 1)=#[.int .u8 0,.int .u8 0]:=by simp [madeCells,Value.cells,Array.range];rfl
  rw [e] at this
  exact this
 have hsz:(Tryz.prog.info? 5).map (·.size)=some 1:=by rw [hi0];simp [hs0]
 go_enter Tryz.func470,Tryz.ntmps470
 go_wp2_with (first|(refine (h1 _).mono ?_;rintro e w2 ⟨rfl,hw2⟩;rw [hw2];clear hw2 w2)|(refine wpList_copy_splice rfl _ _ _ _ rfl 5 Tryz.underlying455 hsz _ _ _ _ _ _ rfl rfl w.heap.size 0 [.int .u8 0,.int .u8 0] 5 ?_ [.int .u8 v] (by rfl) ?_ (by simp) (by simp [Value.oneCell']) w.heap.size w ?_ (Nat.le_refl _) ?_))
 ·exact heap_alloc_new w _
 ·intro j u hj
  cases j with
  | zero =>
   simp at hj;subst hj
   rw [Addr.add_zero',VF _ hv]
  | succ j=>simp at hj
 ·exact (Below.refl _ _).alloc (Nat.le_refl _) _
 ·intro w2 hh hb
  have hh':w2.heap[w.heap.size]?=some (.cells #[.int .u8 v,.int .u8 0] 5 (0,0)):=by simpa [splice] using (show _=_ from hh)
  go_wp2
  refine wp_loop_rounds 2 ?_
  unfold Code.rounds
  go_wp2
  have hsrc:∀ j u,([.int .u8 v]:List Value)[j]?=some u→w2.cell? ((⟨w.heap.size,0,none⟩:Addr).add j)=some u:=by
   intro j u hj
   cases j with
   | zero=>simp at hj;subst hj;rw [Addr.add_zero'];simp [World.cell?,hh']
   | succ j=>simp at hj
  go_region_law (refine step_copy_splice rfl (.tmp 41) (.tmp 44) 455 455 rfl 5 Tryz.underlying455 hsz (some ⟨w.heap.size,1,none⟩) (some ⟨w.heap.size,0,none⟩) 1 1 1 2 (by simp [Act.eval,Act.put]) (by simp [Act.eval,Act.put]) w.heap.size 1 [.int .u8 v,.int .u8 0] 5 hh' [.int .u8 v] (by rfl) (fun _=>⟨rfl,_,rfl,hsrc⟩) (by simp) (by simp [Value.oneCell']) w.heap.size w hb.drew (Nat.le_refl _) ?_;intro w3 hh3 hb3)
  go_wp2
  rw [rounds_succ]
  go_wp2
  go_ret
  exact ⟨rfl,by simpa [splice] using (show _=_ from hh3),hb3⟩
end Go.Cg
set_option linter.unusedVariables false
set_option linter.unusedSimpArgs false
namespace Go.Cg
open Go.Proofs Go.Shelf Go.RowKit Go.Lib
set_option maxHeartbeats 4000000 in
set_option maxRecDepth 100000 in
theorem zmh (v:Int) (ad:Addr) (c:Nat) (w:World) (hv:w.cell? ad=some (.int .u8 v)):Calls Tryz.prog 470 #[.slice (some ad) 1 c,.int .i64 3] w fun e w' =>
  e=.returned (.slice (some ⟨w.heap.size,0,none⟩) 3 3)∧w'.heap[w.heap.size]?=some (.cells #[.int .u8 v,.int .u8 v,.int .u8 v] 5 (0,0))∧Below w.heap.size w w':=by
 obtain ⟨i0,hi0,hz0,hs0,hb0⟩:=info5
 have h1:=zgA 3 (by decide)
 have hmk:∀ w:World,(Instr.makeSlice 455 (.int .i64 3) (.int .i64 3)).run Tryz.prog w=.ok (.slice (some ⟨w.heap.size,0,none⟩) 3 3) (w.alloc (.cells #[.int .u8 0,.int .u8 0,.int .u8 0] 5)):=fun w=>by
  have:=run_makeSlice (P:=Tryz.prog) w 455 5 i0 (.int .u8 0) Tryz.underlying455 hi0 hz0 .i64 .i64 3 3 (by omega) (by omega) (by simp [hs0]) (by simp [hb0]) (by omega)
  rw [hs0] at this
  have e:madeCells (Value.int .u8 0).cells (Int.toNat 3 * 1)=#[.int .u8 0,.int .u8 0,.int .u8 0]:=by simp [madeCells,Value.cells,Array.range];rfl
  rw [e] at this
  exact this
 have hsz:(Tryz.prog.info? 5).map (·.size)=some 1:=by rw [hi0];simp [hs0]
 go_enter Tryz.func470,Tryz.ntmps470
 go_wp2_with (first|(refine (h1 _).mono ?_;rintro e w2 ⟨rfl,hw2⟩;rw [hw2];clear hw2 w2)|(refine wpList_copy_splice rfl _ _ _ _ rfl 5 Tryz.underlying455 hsz _ _ _ _ _ _ rfl rfl w.heap.size 0 [.int .u8 0,.int .u8 0,.int .u8 0] 5 ?_ [.int .u8 v] (by rfl) ?_ (by simp) (by simp [Value.oneCell']) w.heap.size w ?_ (Nat.le_refl _) ?_))
 ·exact heap_alloc_new w _
 ·intro j u hj
  cases j with
  | zero =>
   simp at hj;subst hj
   rw [Addr.add_zero',VF _ hv]
  | succ j=>simp at hj
 ·exact (Below.refl _ _).alloc (Nat.le_refl _) _
 ·intro w2 hh hb
  have hh':w2.heap[w.heap.size]?=some (.cells #[.int .u8 v,.int .u8 0,.int .u8 0] 5 (0,0)):=by simpa [splice] using (show _=_ from hh)
  go_wp2
  refine wp_loop_rounds 3 ?_
  unfold Code.rounds
  go_wp2
  have hsrc:∀ j u,([.int .u8 v]:List Value)[j]?=some u→w2.cell? ((⟨w.heap.size,0,none⟩:Addr).add j)=some u:=by
   intro j u hj
   cases j with
   | zero=>simp at hj;subst hj;rw [Addr.add_zero'];simp [World.cell?,hh']
   | succ j=>simp at hj
  go_region_law (refine step_copy_splice rfl (.tmp 41) (.tmp 44) 455 455 rfl 5 Tryz.underlying455 hsz (some ⟨w.heap.size,1,none⟩) (some ⟨w.heap.size,0,none⟩) 2 2 1 3 (by simp [Act.eval,Act.put]) (by simp [Act.eval,Act.put]) w.heap.size 1 [.int .u8 v,.int .u8 0,.int .u8 0] 5 hh' [.int .u8 v] (by rfl) (fun _=>⟨rfl,_,rfl,hsrc⟩) (by simp) (by simp [Value.oneCell']) w.heap.size w hb.drew (Nat.le_refl _) ?_;intro w3 hh3 hb3)
  have hh3':w3.heap[w.heap.size]?=some (.cells #[.int .u8 v,.int .u8 v,.int .u8 0] 5 (0,0)):=by simpa [splice] using (show _=_ from hh3)
  go_wp2
  rw [rounds_succ]
  go_wp2
  have hsrc3:∀ j u,([.int .u8 v]:List Value)[j]?=some u→w3.cell? ((⟨w.heap.size,0,none⟩:Addr).add j)=some u:=by
   intro j u hj
   cases j with
   | zero=>simp at hj;subst hj;rw [Addr.add_zero'];simp [World.cell?,hh3']
   | succ j=>simp at hj
  go_region_law (refine step_copy_splice rfl (.tmp 41) (.tmp 44) 455 455 rfl 5 Tryz.underlying455 hsz (some ⟨w.heap.size,2,none⟩) (some ⟨w.heap.size,0,none⟩) 1 1 2 3 (by simp [Act.eval,Act.put]) (by simp [Act.eval,Act.put]) w.heap.size 2 [.int .u8 v,.int .u8 v,.int .u8 0] 5 hh3' [.int .u8 v] (by rfl) (fun _=>⟨rfl,_,rfl,hsrc3⟩) (by simp) (by simp [Value.oneCell']) w.heap.size w hb3.drew (Nat.le_refl _) ?_;intro w4 hh4 hb4)
  go_wp2
  rw [rounds_succ]
  go_wp2
  go_ret
  exact ⟨rfl,by simpa [splice] using (show _=_ from hh4),hb4⟩
end Go.Cg
namespace Go.Cg
open Go.Proofs
def ztk (b:UInt8):Bool:=!(decide ((b.toNat:Int) < 33)||decide (126 < (b.toNat:Int)))
def zaR (s:ByteArray):Bool:=s.data.toList.all ztk&&(decide (0 < (s.size:Int))&&decide ((s.size:Int)≤24))
theorem ztP {s:ByteArray} (h:(ps s).lenOk):s.size≤9223372036854775807:=by
 simp [PV.lenOk,YJ,maxLen] at h;exact of_decide_eq_true h
theorem zt0 {s:ByteArray} {k:Nat} (h:k < s.size):s[((k:Int)).toNat]?=some (s.data.toList[k]'(by simpa using h)):=by
 simp only [Int.toNat_natCast]
 rw [getElem?_pos s k h]
 simp [ByteArray.getElem_eq_getElem_data]
def zde (o:Int):Int × Int :=
 if o==1 then (2147483647,-2147483648) else if o==2 then (9223372036854775807,-9223372036854775808) else if o==3 then (11,0) else if o==4 then (6,0) else if o==5 then (159,0)
 else if o==6||o==7 then (63,0) else (0,0)
def znt:ByteArray:={ data:=([48,52,52,52,51,51,51,49,50,48,48,48,48,48,48,48,48,48,48,48,48,48,48,48,48,48,48,48,48,48,48,48,48,53,53,53,53].append [53,53,53,53,53,54,54,54,48,48,55,55,55,55,55,55,56,56,56,56,48,56,56,56,56,56,56,56,56,54,56,48,48,53,48,48,48,48]).toArray }
def digit (s:ByteArray) (op:Int):Int:=IntKind.i64.wrap (IntKind.u8.wrap (((s.data.toList.getD (op - 1).toNat 0).toNat:Int) - 48))
def yj (op:Int):Int:=digit znt op
def zc7 (s:ByteArray) (o f:Int):PV:=.agg [ps s,pi o,pi f]
def ty0:Ty:=⟨0,0,0,false⟩
def Wp (x:Ins):Int :=
 if x.op < 1∨75 < x.op then 3
 else if (zde (yj x.op)).1 < x.arg∨x.arg < (zde (yj x.op)).2 then 17
 else if yj x.op≠8∧x.t≠ty0 then 17
 else if yj x.op=8∧Zx x.t 1=false then 17
 else 0
end Go.Cg
