/- A part of the walks by abstract values: no statement of its own. -/
import Derived.Test.YtdngpcmllgnbjaaGreatN3
import Derived.Test.YtdngpcmllgnbjaaGreatProg
import Derived.KernelRfl
set_option linter.unusedVariables false
set_option linter.unusedSimpArgs false
namespace Go.Cg
open Go.Proofs
def tb:Tab:=.node 248 ⟨1,0,some (.tuple #[.bool false,.bool false]),.scalar⟩
 (.node 124 ⟨5,56,some (.agg #[.int .i64 0,.int .i64 0,.int .i64 0,.bool false,.slice none 0 0]),.agg [(0,44,4),(4,45,1)] true⟩
  (.node 62 ⟨6,48,some (.agg #[.int .i64 0,.int .i64 0,.int .i64 0,.int .i64 0,.int .i64 0,.bool false]),.agg [(0,3,1),(1,2,1),(2,44,4)] true⟩
   (.node 31 ⟨2,32,some (.agg #[.slice none 0 0,.int .i64 0]),.agg [(0,29,1),(1,3,1)] true⟩
    (.node 15 ⟨1,8,some (.pointer none),.ptr 484⟩
     (.node 7 ⟨4,24,some (.agg #[.int .i64 0,.int .i64 0,.bool false,.int .u8 0]),.agg [(0,2,1),(1,3,1),(2,4,1),(3,6,1)] true⟩
      (.node 3 ⟨1,8,some (.int .i64 0),.int .i64⟩
       (.node 1 ⟨1,8,some (.nilFunc),.scalar⟩
        (.node 0 ⟨1,0,some (.tuple #[]),.scalar⟩
         (.leaf)
         (.leaf))
        (.node 2 ⟨1,8,some (.int .i64 0),.int .i64⟩
         (.leaf)
         (.leaf)))
       (.node 5 ⟨1,1,some (.int .u8 0),.int .u8⟩
        (.node 4 ⟨1,1,some (.bool false),.bool⟩
         (.leaf)
         (.leaf))
        (.node 6 ⟨1,1,some (.int .u8 0),.int .u8⟩
         (.leaf)
         (.leaf))))
      (.node 11 ⟨1,16,some (.string ByteArray.empty),.str⟩
       (.node 9 ⟨1,16,some (.string ByteArray.empty),.str⟩
        (.node 8 ⟨4,24,some (.agg #[.int .i64 0,.int .i64 0,.bool false,.int .u8 0]),.agg [(0,2,1),(1,3,1),(2,4,1),(3,6,1)] true⟩
         (.leaf)
         (.leaf))
        (.node 10 ⟨1,16,some (.string ByteArray.empty),.str⟩
         (.leaf)
         (.leaf)))
       (.node 13 ⟨2,24,some (.agg #[.string ByteArray.empty,.int .u64 0]),.agg [(0,9,1),(1,12,1)] false⟩
        (.node 12 ⟨1,8,some (.int .u64 0),.int .u64⟩
         (.leaf)
         (.leaf))
        (.node 14 ⟨2,24,some (.agg #[.string ByteArray.empty,.int .u64 0]),.agg [(0,9,1),(1,12,1)] false⟩
         (.leaf)
         (.leaf)))))
     (.node 23 ⟨1,24,some (.slice none 0 0),.sl 237⟩
      (.node 19 ⟨1,8,some (.agg #[.pointer none]),.agg [(0,17,1)] false⟩
       (.node 17 ⟨1,8,some (.pointer none),.ptr 495⟩
        (.node 16 ⟨1,8,some (.pointer none),.ptr 487⟩
         (.leaf)
         (.leaf))
        (.node 18 ⟨1,8,some (.agg #[.pointer none]),.agg [(0,17,1)] false⟩
         (.leaf)
         (.leaf)))
       (.node 21 ⟨1,4,some (.int .i32 0),.int .i32⟩
        (.node 20 ⟨1,16,some (.nilIface),.scalar⟩
         (.leaf)
         (.leaf))
        (.node 22 ⟨1,24,some (.slice none 0 0),.sl 61⟩
         (.leaf)
         (.leaf))))
      (.node 27 ⟨1,8,some (.nilFunc),.scalar⟩
       (.node 25 ⟨4,80,some (.agg #[.slice none 0 0,.slice none 0 0,.slice none 0 0,.int .i64 0]),.agg [(0,22,1),(1,23,1),(2,24,1),(3,3,1)] true⟩
        (.node 24 ⟨1,24,some (.slice none 0 0),.sl 68⟩
         (.leaf)
         (.leaf))
        (.node 26 ⟨4,80,some (.agg #[.slice none 0 0,.slice none 0 0,.slice none 0 0,.int .i64 0]),.agg [(0,22,1),(1,23,1),(2,24,1),(3,3,1)] true⟩
         (.leaf)
         (.leaf)))
       (.node 29 ⟨1,24,some (.slice none 0 0),.sl 65⟩
        (.node 28 ⟨1,8,some (.nilFunc),.scalar⟩
         (.leaf)
         (.leaf))
        (.node 30 ⟨2,32,some (.agg #[.slice none 0 0,.int .i64 0]),.agg [(0,29,1),(1,3,1)] true⟩
         (.leaf)
         (.leaf))))))
    (.node 47 ⟨6,64,some (.agg #[.int .i64 0,.int .i64 0,.int .i64 0,.int .i64 0,.bool false,.slice none 0 0]),.agg [(0,3,1),(1,44,4),(5,45,1)] true⟩
     (.node 39 ⟨1,1,some (.int .i8 0),.int .i8⟩
      (.node 35 ⟨1,0,some (.tuple #[.int .i64 0,.int .i64 0]),.scalar⟩
       (.node 33 ⟨1,0,some (.tuple #[.agg #[.slice none 0 0,.int .i64 0],.int .i64 0,.int .i64 0]),.scalar⟩
        (.node 32 ⟨1,8,some (.int .i64 0),.int .i64⟩
         (.leaf)
         (.leaf))
        (.node 34 ⟨1,8,some (.nilFunc),.scalar⟩
         (.leaf)
         (.leaf)))
       (.node 37 ⟨1,8,some (.nilFunc),.scalar⟩
        (.node 36 ⟨1,8,some (.nilFunc),.scalar⟩
         (.leaf)
         (.leaf))
        (.node 38 ⟨1,8,some (.nilFunc),.scalar⟩
         (.leaf)
         (.leaf))))
      (.node 43 ⟨4,32,some (.agg #[.int .i64 0,.int .i64 0,.int .i64 0,.bool false]),.agg [(0,3,1),(1,3,1),(2,3,1),(3,4,1)] true⟩
       (.node 41 ⟨1,8,some (.nilFunc),.scalar⟩
        (.node 40 ⟨1,8,some (.pointer none),.ptr 108⟩
         (.leaf)
         (.leaf))
        (.node 42 ⟨1,8,some (.nilFunc),.scalar⟩
         (.leaf)
         (.leaf)))
       (.node 45 ⟨1,24,some (.slice none 0 0),.sl 102⟩
        (.node 44 ⟨4,32,some (.agg #[.int .i64 0,.int .i64 0,.int .i64 0,.bool false]),.agg [(0,3,1),(1,3,1),(2,3,1),(3,4,1)] true⟩
         (.leaf)
         (.leaf))
        (.node 46 ⟨6,64,some (.agg #[.int .i64 0,.int .i64 0,.int .i64 0,.int .i64 0,.bool false,.slice none 0 0]),.agg [(0,3,1),(1,44,4),(5,45,1)] true⟩
         (.leaf)
         (.leaf)))))
     (.node 55 ⟨10,160,some (.agg #[.slice none 0 0,.slice none 0 0,.slice none 0 0,.slice none 0 0,.int .i64 0,.int .i64 0,.int .i64 0,.int .i64 0,.bool false,.slice none 0 0]),.agg [(0,52,1),(1,53,1),(2,45,1),(3,49,1),(4,47,6)] true⟩
      (.node 51 ⟨1,8,some (.nilFunc),.scalar⟩
       (.node 49 ⟨1,24,some (.slice none 0 0),.sl 2⟩
        (.node 48 ⟨1,8,some (.nilFunc),.scalar⟩
         (.leaf)
         (.leaf))
        (.node 50 ⟨1,8,some (.nilFunc),.scalar⟩
         (.leaf)
         (.leaf)))
       (.node 53 ⟨1,24,some (.slice none 0 0),.sl 45⟩
        (.node 52 ⟨1,24,some (.slice none 0 0),.sl 130⟩
         (.leaf)
         (.leaf))
        (.node 54 ⟨10,160,some (.agg #[.slice none 0 0,.slice none 0 0,.slice none 0 0,.slice none 0 0,.int .i64 0,.int .i64 0,.int .i64 0,.int .i64 0,.bool false,.slice none 0 0]),.agg [(0,52,1),(1,53,1),(2,45,1),(3,49,1),(4,47,6)] true⟩
         (.leaf)
         (.leaf))))
      (.node 59 ⟨1,24,some (.slice none 0 0),.sl 3⟩
       (.node 57 ⟨1,8,some (.nilFunc),.scalar⟩
        (.node 56 ⟨1,8,some (.nilFunc),.scalar⟩
         (.leaf)
         (.leaf))
        (.node 58 ⟨1,8,some (.pointer none),.ptr 144⟩
         (.leaf)
         (.leaf)))
       (.node 61 ⟨4,56,some (.agg #[.string ByteArray.empty,.int .i64 0,.int .i64 0,.slice none 0 0]),.agg [(0,9,1),(1,3,1),(2,3,1),(3,59,1)] true⟩
        (.node 60 ⟨4,56,some (.agg #[.string ByteArray.empty,.int .i64 0,.int .i64 0,.slice none 0 0]),.agg [(0,9,1),(1,3,1),(2,3,1),(3,59,1)] true⟩
         (.leaf)
         (.leaf))
        (.leaf))))))
   (.node 93 ⟨1,8,some (.nilFunc),.scalar⟩
    (.node 78 ⟨1,8,some (.nilFunc),.scalar⟩
     (.node 70 ⟨1,8,some (.nilFunc),.scalar⟩
      (.node 66 ⟨1,24,some (.slice none 0 0),.sl 181⟩
       (.node 64 ⟨1,24,some (.slice none 0 0),.sl 63⟩
        (.node 63 ⟨6,48,some (.agg #[.int .i64 0,.int .i64 0,.int .i64 0,.int .i64 0,.int .i64 0,.bool false]),.agg [(0,3,1),(1,2,1),(2,44,4)] true⟩
         (.leaf)
         (.leaf))
        (.node 65 ⟨1,24,some (.slice none 0 0),.sl 44⟩
         (.leaf)
         (.leaf)))
       (.node 68 ⟨12,168,some (.agg #[.string ByteArray.empty,.int .i64 0,.int .i64 0,.slice none 0 0,.int .i64 0,.int .i64 0,.int .i64 0,.bool false,.slice none 0 0,.int .i64 0,.slice none 0 0,.slice none 0 0]),.agg [(0,9,1),(1,3,1),(2,3,1),(3,65,1),(4,44,4),(8,65,1),(9,3,1),(10,64,1),(11,66,1)] true⟩
        (.node 67 ⟨12,168,some (.agg #[.string ByteArray.empty,.int .i64 0,.int .i64 0,.slice none 0 0,.int .i64 0,.int .i64 0,.int .i64 0,.bool false,.slice none 0 0,.int .i64 0,.slice none 0 0,.slice none 0 0]),.agg [(0,9,1),(1,3,1),(2,3,1),(3,65,1),(4,44,4),(8,65,1),(9,3,1),(10,64,1),(11,66,1)] true⟩
         (.leaf)
         (.leaf))
        (.node 69 ⟨1,8,some (.nilFunc),.scalar⟩
         (.leaf)
         (.leaf))))
      (.node 74 ⟨1,8,some (.nilFunc),.scalar⟩
       (.node 72 ⟨1,8,some (.nilFunc),.scalar⟩
        (.node 71 ⟨1,8,some (.pointer none),.ptr 172⟩
         (.leaf)
         (.leaf))
        (.node 73 ⟨1,8,some (.nilFunc),.scalar⟩
         (.leaf)
         (.leaf)))
       (.node 76 ⟨1,8,some (.nilFunc),.scalar⟩
        (.node 75 ⟨1,8,some (.map none),.map 3 65⟩
         (.leaf)
         (.leaf))
        (.node 77 ⟨1,0,some (.tuple #[.slice none 0 0,.bool false]),.scalar⟩
         (.leaf)
         (.leaf)))))
     (.node 86 ⟨1,8,some (.nilFunc),.scalar⟩
      (.node 82 ⟨1,8,some (.nilFunc),.scalar⟩
       (.node 80 ⟨1,24,some (.slice none 0 0),.sl 85⟩
        (.node 79 ⟨1,8,some (.pointer none),.ptr 81⟩
         (.leaf)
         (.leaf))
        (.node 81 ⟨1,24,some (.slice none 0 0),.sl 85⟩
         (.leaf)
         (.leaf)))
       (.node 84 ⟨3,24,some (.agg #[.int .i64 0,.int .i64 0,.int .i64 0]),.agg [(0,3,1),(1,3,1),(2,32,1)] true⟩
        (.node 83 ⟨1,8,some (.nilFunc),.scalar⟩
         (.leaf)
         (.leaf))
        (.node 85 ⟨3,24,some (.agg #[.int .i64 0,.int .i64 0,.int .i64 0]),.agg [(0,3,1),(1,3,1),(2,32,1)] true⟩
         (.leaf)
         (.leaf))))
      (.node 90 ⟨1,8,some (.nilFunc),.scalar⟩
       (.node 88 ⟨1,0,some (.tuple #[.slice none 0 0,.int .i64 0]),.scalar⟩
        (.node 87 ⟨1,24,some (.slice none 0 0),.sl 4⟩
         (.leaf)
         (.leaf))
        (.node 89 ⟨1,8,some (.nilFunc),.scalar⟩
         (.leaf)
         (.leaf)))
       (.node 92 ⟨1,8,some (.nilFunc),.scalar⟩
        (.node 91 ⟨1,8,some (.nilFunc),.scalar⟩
         (.leaf)
         (.leaf))
        (.leaf)))))
    (.node 109 ⟨0,0,some (.agg #[]),.agg [] true⟩
     (.node 101 ⟨1,8,some (.nilFunc),.scalar⟩
      (.node 97 ⟨2,16,some (.agg #[.int .i64 0,.int .i64 0]),.agg [(0,3,1),(1,3,1)] true⟩
       (.node 95 ⟨1,8,some (.nilFunc),.scalar⟩
        (.node 94 ⟨1,8,some (.nilFunc),.scalar⟩
         (.leaf)
         (.leaf))
        (.node 96 ⟨1,8,some (.nilFunc),.scalar⟩
         (.leaf)
         (.leaf)))
       (.node 99 ⟨1,0,some (.tuple #[.pointer none,.int .i64 0]),.scalar⟩
        (.node 98 ⟨2,16,some (.agg #[.int .i64 0,.int .i64 0]),.agg [(0,3,1),(1,3,1)] true⟩
         (.leaf)
         (.leaf))
        (.node 100 ⟨1,8,some (.nilFunc),.scalar⟩
         (.leaf)
         (.leaf))))
      (.node 105 ⟨1,24,some (.slice none 0 0),.sl 134⟩
       (.node 103 ⟨1,8,some (.pointer none),.ptr 218⟩
        (.node 102 ⟨1,8,some (.int .u64 0),.int .u64⟩
         (.leaf)
         (.leaf))
        (.node 104 ⟨1,24,some (.slice none 0 0),.sl 112⟩
         (.leaf)
         (.leaf)))
       (.node 107 ⟨19,312,some (.agg #[.slice none 0 0,.slice none 0 0,.slice none 0 0,.int .i64 0,.pointer none,.slice none 0 0,.int .i64 0,.slice none 0 0,.slice none 0 0,.slice none 0 0,.int .i64 0,.int .i64 0,.int .i64 0,.int .i64 0,.bool false,.slice none 0 0,.slice none 0 0,.slice none 0 0,.map none]),.agg [(0,26,4),(4,103,1),(5,65,1),(6,3,1),(7,104,1),(8,49,1),(9,49,1),(10,47,6),(16,105,1),(17,59,1),(18,106,1)] true⟩
        (.node 106 ⟨1,8,some (.map none),.map 44 65⟩
         (.leaf)
         (.leaf))
        (.node 108 ⟨19,312,some (.agg #[.slice none 0 0,.slice none 0 0,.slice none 0 0,.int .i64 0,.pointer none,.slice none 0 0,.int .i64 0,.slice none 0 0,.slice none 0 0,.slice none 0 0,.int .i64 0,.int .i64 0,.int .i64 0,.int .i64 0,.bool false,.slice none 0 0,.slice none 0 0,.slice none 0 0,.map none]),.agg [(0,26,4),(4,103,1),(5,65,1),(6,3,1),(7,104,1),(8,49,1),(9,49,1),(10,47,6),(16,105,1),(17,59,1),(18,106,1)] true⟩
         (.leaf)
         (.leaf)))))
     (.node 117 ⟨1,24,some (.slice none 0 0),.sl 297⟩
      (.node 113 ⟨1,8,some (.nilFunc),.scalar⟩
       (.node 111 ⟨1,0,some (.tuple #[.agg #[],.bool false]),.scalar⟩
        (.node 110 ⟨0,0,some (.agg #[]),.agg [] true⟩
         (.leaf)
         (.leaf))
        (.node 112 ⟨1,8,some (.pointer none),.ptr 121⟩
         (.leaf)
         (.leaf)))
       (.node 115 ⟨1,8,some (.nilFunc),.scalar⟩
        (.node 114 ⟨1,8,some (.nilFunc),.scalar⟩
         (.leaf)
         (.leaf))
        (.node 116 ⟨1,24,some (.slice none 0 0),.sl 125⟩
         (.leaf)
         (.leaf))))
      (.node 121 ⟨14,144,some (.agg #[.int .i64 0,.int .i64 0,.int .u64 0,.slice none 0 0,.int .u64 0,.bool false,.slice none 0 0,.int .u64 0,.int .u64 0,.int .u64 0,.int .u64 0,.int .u64 0,.int .u64 0,.pointer none]),.agg [(0,3,1),(1,3,1),(2,102,1),(3,116,1),(4,102,1),(5,4,1),(6,117,1),(7,118,6),(13,119,1)] true⟩
       (.node 119 ⟨1,8,some (.pointer none),.ptr 299⟩
        (.node 118 ⟨6,48,some (.agg #[.int .u64 0,.int .u64 0,.int .u64 0,.int .u64 0,.int .u64 0,.int .u64 0]),.arr 6 102⟩
         (.leaf)
         (.leaf))
        (.node 120 ⟨14,144,some (.agg #[.int .i64 0,.int .i64 0,.int .u64 0,.slice none 0 0,.int .u64 0,.bool false,.slice none 0 0,.int .u64 0,.int .u64 0,.int .u64 0,.int .u64 0,.int .u64 0,.int .u64 0,.pointer none]),.agg [(0,3,1),(1,3,1),(2,102,1),(3,116,1),(4,102,1),(5,4,1),(6,117,1),(7,118,6),(13,119,1)] true⟩
         (.leaf)
         (.leaf)))
       (.node 123 ⟨1,8,some (.nilFunc),.scalar⟩
        (.node 122 ⟨1,8,some (.nilFunc),.scalar⟩
         (.leaf)
         (.leaf))
        (.leaf)))))))
  (.node 186 ⟨1,16,some (.nilIface),.scalar⟩
   (.node 155 ⟨12,112,some (.agg #[.pointer none,.int .i64 0,.pointer none,.int .i64 0,.int .i64 0,.int .i64 0,.int .i64 0,.int .i64 0,.int .i64 0,.bool false,.slice none 0 0,.bool false]),.agg [(0,58,1),(1,3,1),(2,145,1),(3,3,1),(4,63,6),(10,154,2)] true⟩
    (.node 140 ⟨1,8,some (.pointer none),.ptr 162⟩
     (.node 132 ⟨1,8,some (.nilFunc),.scalar⟩
      (.node 128 ⟨1,8,some (.nilFunc),.scalar⟩
       (.node 126 ⟨1,8,some (.nilFunc),.scalar⟩
        (.node 125 ⟨5,56,some (.agg #[.int .i64 0,.int .i64 0,.int .i64 0,.bool false,.slice none 0 0]),.agg [(0,44,4),(4,45,1)] true⟩
         (.leaf)
         (.leaf))
        (.node 127 ⟨1,8,some (.nilFunc),.scalar⟩
         (.leaf)
         (.leaf)))
       (.node 130 ⟨4,48,some (.agg #[.int .i64 0,.int .i64 0,.int .u64 0,.slice none 0 0]),.agg [(0,3,1),(1,3,1),(2,102,1),(3,45,1)] true⟩
        (.node 129 ⟨4,48,some (.agg #[.int .i64 0,.int .i64 0,.int .u64 0,.slice none 0 0]),.agg [(0,3,1),(1,3,1),(2,102,1),(3,45,1)] true⟩
         (.leaf)
         (.leaf))
        (.node 131 ⟨1,8,some (.nilFunc),.scalar⟩
         (.leaf)
         (.leaf))))
      (.node 136 ⟨2,16,some (.agg #[.int .i64 0,.int .i64 0]),.agg [(0,3,1),(1,3,1)] true⟩
       (.node 134 ⟨3,56,some (.agg #[.slice none 0 0,.slice none 0 0,.int .i64 0]),.agg [(0,59,1),(1,59,1),(2,3,1)] true⟩
        (.node 133 ⟨3,56,some (.agg #[.slice none 0 0,.slice none 0 0,.int .i64 0]),.agg [(0,59,1),(1,59,1),(2,3,1)] true⟩
         (.leaf)
         (.leaf))
        (.node 135 ⟨2,16,some (.agg #[.int .i64 0,.int .i64 0]),.agg [(0,3,1),(1,3,1)] true⟩
         (.leaf)
         (.leaf)))
       (.node 138 ⟨1,8,some (.nilFunc),.scalar⟩
        (.node 137 ⟨1,0,some (.tuple #[.pointer none,.agg #[.int .i64 0,.int .i64 0],.int .i64 0]),.scalar⟩
         (.leaf)
         (.leaf))
        (.node 139 ⟨1,8,some (.nilFunc),.scalar⟩
         (.leaf)
         (.leaf)))))
     (.node 148 ⟨1,8,some (.pointer none),.ptr 156⟩
      (.node 144 ⟨12,160,some (.agg #[.pointer none,.pointer none,.pointer none,.slice none 0 0,.slice none 0 0,.slice none 0 0,.int .i64 0,.int .i64 0,.int .i64 0,.int .i64 0,.bool false,.slice none 0 0]),.agg [(0,140,1),(1,103,1),(2,141,1),(3,142,1),(4,49,1),(5,49,1),(6,47,6)] true⟩
       (.node 142 ⟨1,24,some (.slice none 0 0),.sl 311⟩
        (.node 141 ⟨1,8,some (.pointer none),.ptr 225⟩
         (.leaf)
         (.leaf))
        (.node 143 ⟨12,160,some (.agg #[.pointer none,.pointer none,.pointer none,.slice none 0 0,.slice none 0 0,.slice none 0 0,.int .i64 0,.int .i64 0,.int .i64 0,.int .i64 0,.bool false,.slice none 0 0]),.agg [(0,140,1),(1,103,1),(2,141,1),(3,142,1),(4,49,1),(5,49,1),(6,47,6)] true⟩
         (.leaf)
         (.leaf)))
       (.node 146 ⟨1,0,some (.tuple #[.int .i64 0,.pointer none,.int .i64 0]),.scalar⟩
        (.node 145 ⟨1,8,some (.pointer none),.ptr 152⟩
         (.leaf)
         (.leaf))
        (.node 147 ⟨1,8,some (.nilFunc),.scalar⟩
         (.leaf)
         (.leaf))))
      (.node 152 ⟨19,288,some (.agg #[.string ByteArray.empty,.int .i64 0,.int .i64 0,.slice none 0 0,.int .i64 0,.int .i64 0,.int .i64 0,.bool false,.slice none 0 0,.int .i64 0,.slice none 0 0,.slice none 0 0,.slice none 0 0,.slice none 0 0,.int .i64 0,.int .i64 0,.int .i64 0,.slice none 0 0,.slice none 0 0]),.agg [(0,68,12),(12,134,3),(15,3,1),(16,3,1),(17,149,1),(18,150,1)] true⟩
       (.node 150 ⟨1,24,some (.slice none 0 0),.sl 87⟩
        (.node 149 ⟨1,24,some (.slice none 0 0),.sl 154⟩
         (.leaf)
         (.leaf))
        (.node 151 ⟨19,288,some (.agg #[.string ByteArray.empty,.int .i64 0,.int .i64 0,.slice none 0 0,.int .i64 0,.int .i64 0,.int .i64 0,.bool false,.slice none 0 0,.int .i64 0,.slice none 0 0,.slice none 0 0,.slice none 0 0,.slice none 0 0,.int .i64 0,.int .i64 0,.int .i64 0,.slice none 0 0,.slice none 0 0]),.agg [(0,68,12),(12,134,3),(15,3,1),(16,3,1),(17,149,1),(18,150,1)] true⟩
         (.leaf)
         (.leaf)))
       (.node 154 ⟨2,32,some (.agg #[.slice none 0 0,.bool false]),.agg [(0,59,1),(1,4,1)] true⟩
        (.node 153 ⟨2,32,some (.agg #[.slice none 0 0,.bool false]),.agg [(0,59,1),(1,4,1)] true⟩
         (.leaf)
         (.leaf))
        (.leaf)))))
    (.node 171 ⟨4,80,some (.agg #[.slice none 0 0,.slice none 0 0,.slice none 0 0,.int .i64 0]),.agg [(0,26,4)] true⟩
     (.node 163 ⟨1,8,some (.nilFunc),.scalar⟩
      (.node 159 ⟨1,8,some (.map none),.map 418 3⟩
       (.node 157 ⟨1,8,some (.nilFunc),.scalar⟩
        (.node 156 ⟨12,112,some (.agg #[.pointer none,.int .i64 0,.pointer none,.int .i64 0,.int .i64 0,.int .i64 0,.int .i64 0,.int .i64 0,.int .i64 0,.bool false,.slice none 0 0,.bool false]),.agg [(0,58,1),(1,3,1),(2,145,1),(3,3,1),(4,63,6),(10,154,2)] true⟩
         (.leaf)
         (.leaf))
        (.node 158 ⟨1,24,some (.slice none 0 0),.sl 152⟩
         (.leaf)
         (.leaf)))
       (.node 161 ⟨9,168,some (.agg #[.slice none 0 0,.slice none 0 0,.slice none 0 0,.int .i64 0,.slice none 0 0,.slice none 0 0,.slice none 0 0,.map none,.map none]),.agg [(0,26,4),(4,158,1),(5,59,1),(6,59,1),(7,159,1),(8,160,1)] true⟩
        (.node 160 ⟨1,8,some (.map none),.map 44 3⟩
         (.leaf)
         (.leaf))
        (.node 162 ⟨9,168,some (.agg #[.slice none 0 0,.slice none 0 0,.slice none 0 0,.int .i64 0,.slice none 0 0,.slice none 0 0,.slice none 0 0,.map none,.map none]),.agg [(0,26,4),(4,158,1),(5,59,1),(6,59,1),(7,159,1),(8,160,1)] true⟩
         (.leaf)
         (.leaf))))
      (.node 167 ⟨2,16,some (.agg #[.int .i64 0,.int .i64 0]),.agg [(0,3,1),(1,3,1)] true⟩
       (.node 165 ⟨1,8,some (.nilFunc),.scalar⟩
        (.node 164 ⟨1,8,some (.nilFunc),.scalar⟩
         (.leaf)
         (.leaf))
        (.node 166 ⟨2,16,some (.agg #[.int .i64 0,.int .i64 0]),.agg [(0,3,1),(1,3,1)] true⟩
         (.leaf)
         (.leaf)))
       (.node 169 ⟨1,8,some (.nilFunc),.scalar⟩
        (.node 168 ⟨1,0,some (.tuple #[.agg #[.int .i64 0,.int .i64 0],.int .i64 0]),.scalar⟩
         (.leaf)
         (.leaf))
        (.node 170 ⟨1,8,some (.nilFunc),.scalar⟩
         (.leaf)
         (.leaf)))))
     (.node 179 ⟨1,8,some (.nilFunc),.scalar⟩
      (.node 175 ⟨1,8,some (.pointer none),.ptr 177⟩
       (.node 173 ⟨16,248,some (.agg #[.slice none 0 0,.slice none 0 0,.slice none 0 0,.int .i64 0,.string ByteArray.empty,.int .i64 0,.int .i64 0,.slice none 0 0,.int .i64 0,.int .i64 0,.int .i64 0,.bool false,.slice none 0 0,.int .i64 0,.slice none 0 0,.slice none 0 0]),.agg [(0,26,4),(4,68,12)] true⟩
        (.node 172 ⟨4,80,some (.agg #[.slice none 0 0,.slice none 0 0,.slice none 0 0,.int .i64 0]),.agg [(0,26,4)] true⟩
         (.leaf)
         (.leaf))
        (.node 174 ⟨16,248,some (.agg #[.slice none 0 0,.slice none 0 0,.slice none 0 0,.int .i64 0,.string ByteArray.empty,.int .i64 0,.int .i64 0,.slice none 0 0,.int .i64 0,.int .i64 0,.int .i64 0,.bool false,.slice none 0 0,.int .i64 0,.slice none 0 0,.slice none 0 0]),.agg [(0,26,4),(4,68,12)] true⟩
         (.leaf)
         (.leaf)))
       (.node 177 ⟨21,320,some (.agg #[.slice none 0 0,.slice none 0 0,.slice none 0 0,.int .i64 0,.string ByteArray.empty,.int .i64 0,.int .i64 0,.slice none 0 0,.int .i64 0,.int .i64 0,.int .i64 0,.bool false,.slice none 0 0,.int .i64 0,.slice none 0 0,.slice none 0 0,.int .i64 0,.pointer none,.slice none 0 0,.int .i64 0,.slice none 0 0]),.agg [(0,174,16),(16,3,1),(17,71,1),(18,31,2),(20,87,1)] true⟩
        (.node 176 ⟨21,320,some (.agg #[.slice none 0 0,.slice none 0 0,.slice none 0 0,.int .i64 0,.string ByteArray.empty,.int .i64 0,.int .i64 0,.slice none 0 0,.int .i64 0,.int .i64 0,.int .i64 0,.bool false,.slice none 0 0,.int .i64 0,.slice none 0 0,.slice none 0 0,.int .i64 0,.pointer none,.slice none 0 0,.int .i64 0,.slice none 0 0]),.agg [(0,174,16),(16,3,1),(17,71,1),(18,31,2),(20,87,1)] true⟩
         (.leaf)
         (.leaf))
        (.node 178 ⟨1,8,some (.nilFunc),.scalar⟩
         (.leaf)
         (.leaf))))
      (.node 183 ⟨1,8,some (.nilFunc),.scalar⟩
       (.node 181 ⟨10,80,some (.agg #[.int .i64 0,.int .i64 0,.int .i64 0,.int .i64 0,.int .i64 0,.int .i64 0,.int .i64 0,.int .i64 0,.int .i64 0,.bool false]),.agg [(0,3,1),(1,3,1),(2,3,1),(3,3,1),(4,3,1),(5,3,1),(6,44,4)] true⟩
        (.node 180 ⟨10,80,some (.agg #[.int .i64 0,.int .i64 0,.int .i64 0,.int .i64 0,.int .i64 0,.int .i64 0,.int .i64 0,.int .i64 0,.int .i64 0,.bool false]),.agg [(0,3,1),(1,3,1),(2,3,1),(3,3,1),(4,3,1),(5,3,1),(6,44,4)] true⟩
         (.leaf)
         (.leaf))
        (.node 182 ⟨1,8,some (.nilFunc),.scalar⟩
         (.leaf)
         (.leaf)))
       (.node 185 ⟨1,16,some (.nilIface),.scalar⟩
        (.node 184 ⟨1,8,some (.nilFunc),.scalar⟩
         (.leaf)
         (.leaf))
        (.leaf))))))
   (.node 217 ⟨8,112,some (.agg #[.slice none 0 0,.slice none 0 0,.slice none 0 0,.map none,.int .u64 0,.int .u64 0,.int .u64 0,.int .i64 0]),.agg [(0,45,1),(1,29,1),(2,59,1),(3,160,1),(4,102,1),(5,102,1),(6,102,1),(7,3,1)] true⟩
    (.node 202 ⟨1,0,some (.tuple #[.agg #[.int .i64 0,.int .i64 0,.int .i64 0],.bool false]),.scalar⟩
     (.node 194 ⟨24,344,some (.agg #[.slice none 0 0,.slice none 0 0,.slice none 0 0,.int .i64 0,.string ByteArray.empty,.int .i64 0,.int .i64 0,.slice none 0 0,.int .i64 0,.int .i64 0,.int .i64 0,.bool false,.slice none 0 0,.int .i64 0,.slice none 0 0,.slice none 0 0,.slice none 0 0,.int .i64 0,.int .i64 0,.int .i64 0,.int .i64 0,.int .i64 0,.bool false,.slice none 0 0]),.agg [(0,26,4),(4,68,12),(16,65,1),(17,63,6),(23,65,1)] true⟩
      (.node 190 ⟨1,0,some (.tuple #[.int .i64 0,.bool false]),.scalar⟩
       (.node 188 ⟨1,8,some (.nilFunc),.scalar⟩
        (.node 187 ⟨1,8,some (.nilFunc),.scalar⟩
         (.leaf)
         (.leaf))
        (.node 189 ⟨1,8,some (.int .i64 0),.int .i64⟩
         (.leaf)
         (.leaf)))
       (.node 192 ⟨1,8,some (.nilFunc),.scalar⟩
        (.node 191 ⟨1,8,some (.pointer none),.ptr 194⟩
         (.leaf)
         (.leaf))
        (.node 193 ⟨24,344,some (.agg #[.slice none 0 0,.slice none 0 0,.slice none 0 0,.int .i64 0,.string ByteArray.empty,.int .i64 0,.int .i64 0,.slice none 0 0,.int .i64 0,.int .i64 0,.int .i64 0,.bool false,.slice none 0 0,.int .i64 0,.slice none 0 0,.slice none 0 0,.slice none 0 0,.int .i64 0,.int .i64 0,.int .i64 0,.int .i64 0,.int .i64 0,.bool false,.slice none 0 0]),.agg [(0,26,4),(4,68,12),(16,65,1),(17,63,6),(23,65,1)] true⟩
         (.leaf)
         (.leaf))))
      (.node 198 ⟨1,0,some (.tuple #[.agg #[.string ByteArray.empty,.int .i64 0,.int .i64 0],.int .i64 0]),.scalar⟩
       (.node 196 ⟨3,32,some (.agg #[.string ByteArray.empty,.int .i64 0,.int .i64 0]),.agg [(0,9,1),(1,3,1),(2,3,1)] true⟩
        (.node 195 ⟨1,8,some (.nilFunc),.scalar⟩
         (.leaf)
         (.leaf))
        (.node 197 ⟨3,32,some (.agg #[.string ByteArray.empty,.int .i64 0,.int .i64 0]),.agg [(0,9,1),(1,3,1),(2,3,1)] true⟩
         (.leaf)
         (.leaf)))
       (.node 200 ⟨1,8,some (.nilFunc),.scalar⟩
        (.node 199 ⟨1,8,some (.nilFunc),.scalar⟩
         (.leaf)
         (.leaf))
        (.node 201 ⟨1,8,some (.nilFunc),.scalar⟩
         (.leaf)
         (.leaf)))))
     (.node 210 ⟨1,8,some (.nilFunc),.scalar⟩
      (.node 206 ⟨1,0,some (.tuple #[.agg #[.slice none 0 0,.slice none 0 0,.int .i64 0],.int .i64 0]),.scalar⟩
       (.node 204 ⟨1,8,some (.nilFunc),.scalar⟩
        (.node 203 ⟨1,8,some (.nilFunc),.scalar⟩
         (.leaf)
         (.leaf))
        (.node 205 ⟨1,8,some (.nilFunc),.scalar⟩
         (.leaf)
         (.leaf)))
       (.node 208 ⟨1,8,some (.nilFunc),.scalar⟩
        (.node 207 ⟨1,8,some (.nilFunc),.scalar⟩
         (.leaf)
         (.leaf))
        (.node 209 ⟨1,8,some (.nilFunc),.scalar⟩
         (.leaf)
         (.leaf))))
      (.node 214 ⟨1,8,some (.nilFunc),.scalar⟩
       (.node 212 ⟨1,8,some (.nilFunc),.scalar⟩
        (.node 211 ⟨1,8,some (.nilFunc),.scalar⟩
         (.leaf)
         (.leaf))
        (.node 213 ⟨1,8,some (.nilFunc),.scalar⟩
         (.leaf)
         (.leaf)))
       (.node 216 ⟨1,8,some (.nilFunc),.scalar⟩
        (.node 215 ⟨1,8,some (.nilFunc),.scalar⟩
         (.leaf)
         (.leaf))
        (.leaf)))))
    (.node 233 ⟨1,8,some (.nilFunc),.scalar⟩
     (.node 225 ⟨3,40,some (.agg #[.pointer none,.int .i64 0,.slice none 0 0]),.agg [(0,103,1),(1,3,1),(2,223,1)] true⟩
      (.node 221 ⟨1,8,some (.nilFunc),.scalar⟩
       (.node 219 ⟨1,0,some (.tuple #[.pointer none,.agg #[.int .i64 0,.int .i64 0],.int .i64 0]),.scalar⟩
        (.node 218 ⟨8,112,some (.agg #[.slice none 0 0,.slice none 0 0,.slice none 0 0,.map none,.int .u64 0,.int .u64 0,.int .u64 0,.int .i64 0]),.agg [(0,45,1),(1,29,1),(2,59,1),(3,160,1),(4,102,1),(5,102,1),(6,102,1),(7,3,1)] true⟩
         (.leaf)
         (.leaf))
        (.node 220 ⟨1,8,some (.nilFunc),.scalar⟩
         (.leaf)
         (.leaf)))
       (.node 223 ⟨1,24,some (.slice none 0 0),.sl 228⟩
        (.node 222 ⟨1,8,some (.nilFunc),.scalar⟩
         (.leaf)
         (.leaf))
        (.node 224 ⟨3,40,some (.agg #[.pointer none,.int .i64 0,.slice none 0 0]),.agg [(0,103,1),(1,3,1),(2,223,1)] true⟩
         (.leaf)
         (.leaf))))
      (.node 229 ⟨1,8,some (.nilFunc),.scalar⟩
       (.node 227 ⟨5,40,some (.agg #[.int .i64 0,.int .i64 0,.int .u64 0,.int .u64 0,.int .i64 0]),.agg [(0,3,1),(1,3,1),(2,102,1),(3,102,1),(4,3,1)] true⟩
        (.node 226 ⟨1,8,some (.nilFunc),.scalar⟩
         (.leaf)
         (.leaf))
        (.node 228 ⟨5,40,some (.agg #[.int .i64 0,.int .i64 0,.int .u64 0,.int .u64 0,.int .i64 0]),.agg [(0,3,1),(1,3,1),(2,102,1),(3,102,1),(4,3,1)] true⟩
         (.leaf)
         (.leaf)))
       (.node 231 ⟨1,8,some (.nilFunc),.scalar⟩
        (.node 230 ⟨1,8,some (.nilFunc),.scalar⟩
         (.leaf)
         (.leaf))
        (.node 232 ⟨1,8,some (.nilFunc),.scalar⟩
         (.leaf)
         (.leaf)))))
     (.node 241 ⟨1,8,some (.nilFunc),.scalar⟩
      (.node 237 ⟨7,64,some (.agg #[.string ByteArray.empty,.int .i64 0,.int .i64 0,.int .i64 0,.int .i64 0,.bool false,.bool false]),.agg [(0,9,1),(1,3,1),(2,44,4),(6,4,1)] true⟩
       (.node 235 ⟨1,8,some (.nilFunc),.scalar⟩
        (.node 234 ⟨1,8,some (.nilFunc),.scalar⟩
         (.leaf)
         (.leaf))
        (.node 236 ⟨7,64,some (.agg #[.string ByteArray.empty,.int .i64 0,.int .i64 0,.int .i64 0,.int .i64 0,.bool false,.bool false]),.agg [(0,9,1),(1,3,1),(2,44,4),(6,4,1)] true⟩
         (.leaf)
         (.leaf)))
       (.node 239 ⟨1,8,some (.nilFunc),.scalar⟩
        (.node 238 ⟨1,8,some (.nilFunc),.scalar⟩
         (.leaf)
         (.leaf))
        (.node 240 ⟨1,8,some (.pointer none),.ptr 68⟩
         (.leaf)
         (.leaf))))
      (.node 245 ⟨1,0,some (.tuple #[.int .i64 0,.bool false]),.scalar⟩
       (.node 243 ⟨1,8,some (.nilFunc),.scalar⟩
        (.node 242 ⟨1,8,some (.nilFunc),.scalar⟩
         (.leaf)
         (.leaf))
        (.node 244 ⟨1,8,some (.int .i64 0),.int .i64⟩
         (.leaf)
         (.leaf)))
       (.node 247 ⟨1,8,some (.nilFunc),.scalar⟩
        (.node 246 ⟨1,8,some (.nilFunc),.scalar⟩
         (.leaf)
         (.leaf))
        (.leaf))))))))
 (.node 373 ⟨1,8,some (.pointer none),.ptr 311⟩
  (.node 311 ⟨10,96,some (.agg #[.int .u64 0,.bool false,.slice none 0 0,.int .u64 0,.int .u64 0,.int .u64 0,.int .u64 0,.int .u64 0,.int .u64 0,.pointer none]),.agg [(0,102,1),(1,4,1),(2,308,1),(3,118,6),(9,309,1)] true⟩
   (.node 280 ⟨1,8,some (.nilFunc),.scalar⟩
    (.node 264 ⟨1,8,some (.nilFunc),.scalar⟩
     (.node 256 ⟨1,8,some (.nilFunc),.scalar⟩
      (.node 252 ⟨1,8,some (.nilFunc),.scalar⟩
       (.node 250 ⟨1,8,some (.nilFunc),.scalar⟩
        (.node 249 ⟨1,8,some (.nilFunc),.scalar⟩
         (.leaf)
         (.leaf))
        (.node 251 ⟨1,8,some (.nilFunc),.scalar⟩
         (.leaf)
         (.leaf)))
       (.node 254 ⟨1,0,some (.tuple #[.agg #[.int .i64 0,.int .i64 0,.int .i64 0,.bool false],.bool false]),.scalar⟩
        (.node 253 ⟨1,8,some (.nilFunc),.scalar⟩
         (.leaf)
         (.leaf))
        (.node 255 ⟨1,8,some (.nilFunc),.scalar⟩
         (.leaf)
         (.leaf))))
      (.node 260 ⟨1,8,some (.nilFunc),.scalar⟩
       (.node 258 ⟨1,8,some (.nilFunc),.scalar⟩
        (.node 257 ⟨1,8,some (.nilFunc),.scalar⟩
         (.leaf)
         (.leaf))
        (.node 259 ⟨1,8,some (.nilFunc),.scalar⟩
         (.leaf)
         (.leaf)))
       (.node 262 ⟨1,8,some (.nilFunc),.scalar⟩
        (.node 261 ⟨1,8,some (.nilFunc),.scalar⟩
         (.leaf)
         (.leaf))
        (.node 263 ⟨1,8,some (.nilFunc),.scalar⟩
         (.leaf)
         (.leaf)))))
     (.node 272 ⟨1,8,some (.nilFunc),.scalar⟩
      (.node 268 ⟨1,8,some (.nilFunc),.scalar⟩
       (.node 266 ⟨1,8,some (.nilFunc),.scalar⟩
        (.node 265 ⟨1,8,some (.nilFunc),.scalar⟩
         (.leaf)
         (.leaf))
        (.node 267 ⟨1,8,some (.nilFunc),.scalar⟩
         (.leaf)
         (.leaf)))
       (.node 270 ⟨1,8,some (.nilFunc),.scalar⟩
        (.node 269 ⟨1,8,some (.nilFunc),.scalar⟩
         (.leaf)
         (.leaf))
        (.node 271 ⟨1,8,some (.nilFunc),.scalar⟩
         (.leaf)
         (.leaf))))
      (.node 276 ⟨1,0,some (.tuple #[.agg #[.int .i64 0,.int .i64 0,.int .i64 0,.bool false,.slice none 0 0],.agg #[.int .i64 0,.int .i64 0,.int .i64 0,.bool false,.slice none 0 0]]),.scalar⟩
       (.node 274 ⟨1,8,some (.nilFunc),.scalar⟩
        (.node 273 ⟨1,0,some (.tuple #[.int .u64 0,.int .i64 0]),.scalar⟩
         (.leaf)
         (.leaf))
        (.node 275 ⟨1,8,some (.nilFunc),.scalar⟩
         (.leaf)
         (.leaf)))
       (.node 278 ⟨1,8,some (.nilFunc),.scalar⟩
        (.node 277 ⟨1,8,some (.nilFunc),.scalar⟩
         (.leaf)
         (.leaf))
        (.node 279 ⟨1,8,some (.nilFunc),.scalar⟩
         (.leaf)
         (.leaf))))))
    (.node 296 ⟨7,72,some (.agg #[.int .i64 0,.slice none 0 0,.bool false,.int .i64 0,.int .u64 0,.int .i64 0,.int .i64 0]),.agg [(0,3,1),(1,59,1),(2,4,1),(3,3,1),(4,102,1),(5,3,1),(6,3,1)] true⟩
     (.node 288 ⟨1,8,some (.nilFunc),.scalar⟩
      (.node 284 ⟨1,8,some (.nilFunc),.scalar⟩
       (.node 282 ⟨1,8,some (.nilFunc),.scalar⟩
        (.node 281 ⟨1,8,some (.nilFunc),.scalar⟩
         (.leaf)
         (.leaf))
        (.node 283 ⟨1,8,some (.nilFunc),.scalar⟩
         (.leaf)
         (.leaf)))
       (.node 286 ⟨1,8,some (.nilFunc),.scalar⟩
        (.node 285 ⟨1,0,some (.tuple #[.int .u64 0,.slice none 0 0,.bool false]),.scalar⟩
         (.leaf)
         (.leaf))
        (.node 287 ⟨1,8,some (.nilFunc),.scalar⟩
         (.leaf)
         (.leaf))))
      (.node 292 ⟨1,8,some (.nilFunc),.scalar⟩
       (.node 290 ⟨1,8,some (.nilFunc),.scalar⟩
        (.node 289 ⟨1,8,some (.nilFunc),.scalar⟩
         (.leaf)
         (.leaf))
        (.node 291 ⟨1,8,some (.nilFunc),.scalar⟩
         (.leaf)
         (.leaf)))
       (.node 294 ⟨1,8,some (.nilFunc),.scalar⟩
        (.node 293 ⟨1,8,some (.nilFunc),.scalar⟩
         (.leaf)
         (.leaf))
        (.node 295 ⟨1,8,some (.nilFunc),.scalar⟩
         (.leaf)
         (.leaf)))))
     (.node 304 ⟨1,8,some (.nilFunc),.scalar⟩
      (.node 300 ⟨1,8,some (.nilFunc),.scalar⟩
       (.node 298 ⟨3,24,some (.agg #[.int .u64 0,.int .i64 0,.int .i64 0]),.agg [(0,102,1),(1,3,1),(2,3,1)] true⟩
        (.node 297 ⟨7,72,some (.agg #[.int .i64 0,.slice none 0 0,.bool false,.int .i64 0,.int .u64 0,.int .i64 0,.int .i64 0]),.agg [(0,3,1),(1,59,1),(2,4,1),(3,3,1),(4,102,1),(5,3,1),(6,3,1)] true⟩
         (.leaf)
         (.leaf))
        (.node 299 ⟨3,24,some (.agg #[.int .u64 0,.int .i64 0,.int .i64 0]),.agg [(0,102,1),(1,3,1),(2,3,1)] true⟩
         (.leaf)
         (.leaf)))
       (.node 302 ⟨1,0,some (.tuple #[.agg #[.int .i64 0,.int .i64 0],.int .i64 0]),.scalar⟩
        (.node 301 ⟨1,8,some (.nilFunc),.scalar⟩
         (.leaf)
         (.leaf))
        (.node 303 ⟨1,8,some (.nilFunc),.scalar⟩
         (.leaf)
         (.leaf))))
      (.node 308 ⟨1,24,some (.slice none 0 0),.sl 381⟩
       (.node 306 ⟨1,8,some (.nilFunc),.scalar⟩
        (.node 305 ⟨1,8,some (.nilFunc),.scalar⟩
         (.leaf)
         (.leaf))
        (.node 307 ⟨1,8,some (.nilFunc),.scalar⟩
         (.leaf)
         (.leaf)))
       (.node 310 ⟨10,96,some (.agg #[.int .u64 0,.bool false,.slice none 0 0,.int .u64 0,.int .u64 0,.int .u64 0,.int .u64 0,.int .u64 0,.int .u64 0,.pointer none]),.agg [(0,102,1),(1,4,1),(2,308,1),(3,118,6),(9,309,1)] true⟩
        (.node 309 ⟨1,8,some (.pointer none),.ptr 378⟩
         (.leaf)
         (.leaf))
        (.leaf))))))
   (.node 342 ⟨1,8,some (.nilFunc),.scalar⟩
    (.node 327 ⟨2,16,some (.agg #[.int .i64 0,.int .i64 0]),.agg [(0,3,1),(1,3,1)] true⟩
     (.node 319 ⟨1,8,some (.nilFunc),.scalar⟩
      (.node 315 ⟨1,8,some (.nilFunc),.scalar⟩
       (.node 313 ⟨1,8,some (.nilFunc),.scalar⟩
        (.node 312 ⟨1,8,some (.nilFunc),.scalar⟩
         (.leaf)
         (.leaf))
        (.node 314 ⟨1,8,some (.nilFunc),.scalar⟩
         (.leaf)
         (.leaf)))
       (.node 317 ⟨1,0,some (.tuple #[.int .i64 0,.slice none 0 0]),.scalar⟩
        (.node 316 ⟨1,8,some (.nilFunc),.scalar⟩
         (.leaf)
         (.leaf))
        (.node 318 ⟨1,8,some (.nilFunc),.scalar⟩
         (.leaf)
         (.leaf))))
      (.node 323 ⟨1,8,some (.nilFunc),.scalar⟩
       (.node 321 ⟨1,8,some (.nilFunc),.scalar⟩
        (.node 320 ⟨1,8,some (.nilFunc),.scalar⟩
         (.leaf)
         (.leaf))
        (.node 322 ⟨1,8,some (.nilFunc),.scalar⟩
         (.leaf)
         (.leaf)))
       (.node 325 ⟨1,24,some (.slice none 0 0),.sl 327⟩
        (.node 324 ⟨1,8,some (.nilFunc),.scalar⟩
         (.leaf)
         (.leaf))
        (.node 326 ⟨2,16,some (.agg #[.int .i64 0,.int .i64 0]),.agg [(0,3,1),(1,3,1)] true⟩
         (.leaf)
         (.leaf)))))
     (.node 335 ⟨1,8,some (.nilFunc),.scalar⟩
      (.node 331 ⟨1,8,some (.nilFunc),.scalar⟩
       (.node 329 ⟨1,8,some (.nilFunc),.scalar⟩
        (.node 328 ⟨1,8,some (.nilFunc),.scalar⟩
         (.leaf)
         (.leaf))
        (.node 330 ⟨1,8,some (.nilFunc),.scalar⟩
         (.leaf)
         (.leaf)))
       (.node 333 ⟨1,8,some (.nilFunc),.scalar⟩
        (.node 332 ⟨1,8,some (.nilFunc),.scalar⟩
         (.leaf)
         (.leaf))
        (.node 334 ⟨1,8,some (.nilFunc),.scalar⟩
         (.leaf)
         (.leaf))))
      (.node 339 ⟨1,8,some (.int .u64 0),.int .u64⟩
       (.node 337 ⟨1,8,some (.nilFunc),.scalar⟩
        (.node 336 ⟨1,8,some (.nilFunc),.scalar⟩
         (.leaf)
         (.leaf))
        (.node 338 ⟨1,8,some (.nilFunc),.scalar⟩
         (.leaf)
         (.leaf)))
       (.node 341 ⟨1,8,some (.nilFunc),.scalar⟩
        (.node 340 ⟨1,8,some (.nilFunc),.scalar⟩
         (.leaf)
         (.leaf))
        (.leaf)))))
    (.node 358 ⟨1,8,some (.nilFunc),.scalar⟩
     (.node 350 ⟨1,8,some (.nilFunc),.scalar⟩
      (.node 346 ⟨1,8,some (.nilFunc),.scalar⟩
       (.node 344 ⟨1,0,some (.tuple #[.int .i64 0,.bool false]),.scalar⟩
        (.node 343 ⟨1,8,some (.nilFunc),.scalar⟩
         (.leaf)
         (.leaf))
        (.node 345 ⟨1,8,some (.nilFunc),.scalar⟩
         (.leaf)
         (.leaf)))
       (.node 348 ⟨1,8,some (.nilFunc),.scalar⟩
        (.node 347 ⟨1,8,some (.nilFunc),.scalar⟩
         (.leaf)
         (.leaf))
        (.node 349 ⟨1,8,some (.nilFunc),.scalar⟩
         (.leaf)
         (.leaf))))
      (.node 354 ⟨1,8,some (.nilFunc),.scalar⟩
       (.node 352 ⟨1,8,some (.nilFunc),.scalar⟩
        (.node 351 ⟨1,8,some (.nilFunc),.scalar⟩
         (.leaf)
         (.leaf))
        (.node 353 ⟨1,8,some (.nilFunc),.scalar⟩
         (.leaf)
         (.leaf)))
       (.node 356 ⟨1,8,some (.nilFunc),.scalar⟩
        (.node 355 ⟨1,24,some (.slice none 0 0),.sl 362⟩
         (.leaf)
         (.leaf))
        (.node 357 ⟨1,8,some (.nilFunc),.scalar⟩
         (.leaf)
         (.leaf)))))
     (.node 366 ⟨1,8,some (.nilFunc),.scalar⟩
      (.node 362 ⟨4,32,some (.agg #[.int .i64 0,.int .i64 0,.int .i64 0,.int .i64 0]),.agg [(0,327,2),(2,360,2)] true⟩
       (.node 360 ⟨2,16,some (.agg #[.int .i64 0,.int .i64 0]),.agg [(0,3,1),(1,3,1)] true⟩
        (.node 359 ⟨2,16,some (.agg #[.int .i64 0,.int .i64 0]),.agg [(0,3,1),(1,3,1)] true⟩
         (.leaf)
         (.leaf))
        (.node 361 ⟨4,32,some (.agg #[.int .i64 0,.int .i64 0,.int .i64 0,.int .i64 0]),.agg [(0,327,2),(2,360,2)] true⟩
         (.leaf)
         (.leaf)))
       (.node 364 ⟨1,8,some (.nilFunc),.scalar⟩
        (.node 363 ⟨1,8,some (.nilFunc),.scalar⟩
         (.leaf)
         (.leaf))
        (.node 365 ⟨1,8,some (.nilFunc),.scalar⟩
         (.leaf)
         (.leaf))))
      (.node 370 ⟨1,8,some (.nilFunc),.scalar⟩
       (.node 368 ⟨1,8,some (.nilFunc),.scalar⟩
        (.node 367 ⟨1,8,some (.nilFunc),.scalar⟩
         (.leaf)
         (.leaf))
        (.node 369 ⟨1,0,some (.tuple #[.int .i64 0,.bool false]),.scalar⟩
         (.leaf)
         (.leaf)))
       (.node 372 ⟨1,8,some (.nilFunc),.scalar⟩
        (.node 371 ⟨1,8,some (.pointer none),.ptr 228⟩
         (.leaf)
         (.leaf))
        (.leaf)))))))
  (.node 435 ⟨1,8,some (.nilFunc),.scalar⟩
   (.node 404 ⟨1,8,some (.nilFunc),.scalar⟩
    (.node 389 ⟨5,88,some (.agg #[.pointer none,.slice none 0 0,.slice none 0 0,.slice none 0 0,.int .i64 0]),.agg [(0,386,1),(1,26,4)] true⟩
     (.node 381 ⟨7,72,some (.agg #[.int .i64 0,.slice none 0 0,.bool false,.int .i64 0,.int .u64 0,.int .i64 0,.int .i64 0]),.agg [(0,3,1),(1,59,1),(2,4,1),(3,3,1),(4,102,1),(5,3,1),(6,3,1)] true⟩
      (.node 377 ⟨3,24,some (.agg #[.int .u64 0,.int .i64 0,.int .i64 0]),.agg [(0,102,1),(1,3,1),(2,3,1)] true⟩
       (.node 375 ⟨1,8,some (.nilFunc),.scalar⟩
        (.node 374 ⟨1,8,some (.nilFunc),.scalar⟩
         (.leaf)
         (.leaf))
        (.node 376 ⟨1,8,some (.nilFunc),.scalar⟩
         (.leaf)
         (.leaf)))
       (.node 379 ⟨1,8,some (.nilFunc),.scalar⟩
        (.node 378 ⟨3,24,some (.agg #[.int .u64 0,.int .i64 0,.int .i64 0]),.agg [(0,102,1),(1,3,1),(2,3,1)] true⟩
         (.leaf)
         (.leaf))
        (.node 380 ⟨7,72,some (.agg #[.int .i64 0,.slice none 0 0,.bool false,.int .i64 0,.int .u64 0,.int .i64 0,.int .i64 0]),.agg [(0,3,1),(1,59,1),(2,4,1),(3,3,1),(4,102,1),(5,3,1),(6,3,1)] true⟩
         (.leaf)
         (.leaf))))
      (.node 385 ⟨1,8,some (.nilFunc),.scalar⟩
       (.node 383 ⟨1,8,some (.nilFunc),.scalar⟩
        (.node 382 ⟨1,8,some (.nilFunc),.scalar⟩
         (.leaf)
         (.leaf))
        (.node 384 ⟨1,8,some (.nilFunc),.scalar⟩
         (.leaf)
         (.leaf)))
       (.node 387 ⟨1,24,some (.agg #[.slice none 0 0]),.agg [(0,59,1)] true⟩
        (.node 386 ⟨1,8,some (.pointer none),.ptr 388⟩
         (.leaf)
         (.leaf))
        (.node 388 ⟨1,24,some (.agg #[.slice none 0 0]),.agg [(0,59,1)] true⟩
         (.leaf)
         (.leaf)))))
     (.node 397 ⟨1,8,some (.nilFunc),.scalar⟩
      (.node 393 ⟨1,8,some (.nilFunc),.scalar⟩
       (.node 391 ⟨1,8,some (.nilFunc),.scalar⟩
        (.node 390 ⟨5,88,some (.agg #[.pointer none,.slice none 0 0,.slice none 0 0,.slice none 0 0,.int .i64 0]),.agg [(0,386,1),(1,26,4)] true⟩
         (.leaf)
         (.leaf))
        (.node 392 ⟨1,8,some (.nilFunc),.scalar⟩
         (.leaf)
         (.leaf)))
       (.node 395 ⟨1,0,some (.tuple #[.agg #[.int .i64 0,.int .i64 0,.int .i64 0,.bool false],.int .i64 0]),.scalar⟩
        (.node 394 ⟨1,8,some (.nilFunc),.scalar⟩
         (.leaf)
         (.leaf))
        (.node 396 ⟨1,8,some (.nilFunc),.scalar⟩
         (.leaf)
         (.leaf))))
      (.node 401 ⟨1,8,some (.nilFunc),.scalar⟩
       (.node 399 ⟨1,0,some (.tuple #[.slice none 0 0,.slice none 0 0,.int .i64 0]),.scalar⟩
        (.node 398 ⟨1,8,some (.nilFunc),.scalar⟩
         (.leaf)
         (.leaf))
        (.node 400 ⟨1,8,some (.nilFunc),.scalar⟩
         (.leaf)
         (.leaf)))
       (.node 403 ⟨1,8,some (.nilFunc),.scalar⟩
        (.node 402 ⟨1,0,some (.tuple #[.int .u64 0,.int .u64 0]),.scalar⟩
         (.leaf)
         (.leaf))
        (.leaf)))))
    (.node 420 ⟨1,8,some (.nilFunc),.scalar⟩
     (.node 412 ⟨1,8,some (.nilFunc),.scalar⟩
      (.node 408 ⟨1,8,some (.nilFunc),.scalar⟩
       (.node 406 ⟨1,8,some (.nilFunc),.scalar⟩
        (.node 405 ⟨1,0,some (.tuple #[.int .u64 0,.int .u64 0]),.scalar⟩
         (.leaf)
         (.leaf))
        (.node 407 ⟨1,8,some (.nilFunc),.scalar⟩
         (.leaf)
         (.leaf)))
       (.node 410 ⟨1,8,some (.nilFunc),.scalar⟩
        (.node 409 ⟨1,8,some (.nilFunc),.scalar⟩
         (.leaf)
         (.leaf))
        (.node 411 ⟨1,8,some (.nilFunc),.scalar⟩
         (.leaf)
         (.leaf))))
      (.node 416 ⟨1,8,some (.nilFunc),.scalar⟩
       (.node 414 ⟨1,8,some (.nilFunc),.scalar⟩
        (.node 413 ⟨1,8,some (.nilFunc),.scalar⟩
         (.leaf)
         (.leaf))
        (.node 415 ⟨1,8,some (.nilFunc),.scalar⟩
         (.leaf)
         (.leaf)))
       (.node 418 ⟨2,16,some (.agg #[.int .i64 0,.int .i64 0]),.arr 2 3⟩
        (.node 417 ⟨1,8,some (.nilFunc),.scalar⟩
         (.leaf)
         (.leaf))
        (.node 419 ⟨1,8,some (.nilFunc),.scalar⟩
         (.leaf)
         (.leaf)))))
     (.node 428 ⟨1,0,some (.tuple #[.int .u32 0,.int .u32 0]),.scalar⟩
      (.node 424 ⟨1,8,some (.nilFunc),.scalar⟩
       (.node 422 ⟨1,8,some (.nilFunc),.scalar⟩
        (.node 421 ⟨1,8,some (.nilFunc),.scalar⟩
         (.leaf)
         (.leaf))
        (.node 423 ⟨1,8,some (.map none),.map 3 3⟩
         (.leaf)
         (.leaf)))
       (.node 426 ⟨4,32,some (.agg #[.int .i64 0,.int .i64 0,.int .i64 0,.bool false]),.agg [(0,3,1),(1,3,1),(2,3,1),(3,4,1)] true⟩
        (.node 425 ⟨1,8,some (.nilFunc),.scalar⟩
         (.leaf)
         (.leaf))
        (.node 427 ⟨1,4,some (.int .u32 0),.int .u32⟩
         (.leaf)
         (.leaf))))
      (.node 432 ⟨1,8,some (.nilFunc),.scalar⟩
       (.node 430 ⟨1,8,some (.nilFunc),.scalar⟩
        (.node 429 ⟨1,8,some (.nilFunc),.scalar⟩
         (.leaf)
         (.leaf))
        (.node 431 ⟨1,8,some (.nilFunc),.scalar⟩
         (.leaf)
         (.leaf)))
       (.node 434 ⟨1,8,some (.nilFunc),.scalar⟩
        (.node 433 ⟨1,8,some (.nilFunc),.scalar⟩
         (.leaf)
         (.leaf))
        (.leaf))))))
   (.node 466 ⟨1,8,some (.nilFunc),.scalar⟩
    (.node 451 ⟨1,8,some (.nilFunc),.scalar⟩
     (.node 443 ⟨1,8,some (.nilFunc),.scalar⟩
      (.node 439 ⟨1,0,some (.tuple #[.int .i64 0,.int .i64 0]),.scalar⟩
       (.node 437 ⟨1,8,some (.nilFunc),.scalar⟩
        (.node 436 ⟨1,8,some (.nilFunc),.scalar⟩
         (.leaf)
         (.leaf))
        (.node 438 ⟨1,8,some (.int .i64 0),.int .i64⟩
         (.leaf)
         (.leaf)))
       (.node 441 ⟨1,8,some (.nilFunc),.scalar⟩
        (.node 440 ⟨1,8,some (.nilFunc),.scalar⟩
         (.leaf)
         (.leaf))
        (.node 442 ⟨1,8,some (.nilFunc),.scalar⟩
         (.leaf)
         (.leaf))))
      (.node 447 ⟨1,8,some (.nilFunc),.scalar⟩
       (.node 445 ⟨1,8,some (.nilFunc),.scalar⟩
        (.node 444 ⟨1,8,some (.nilFunc),.scalar⟩
         (.leaf)
         (.leaf))
        (.node 446 ⟨1,8,some (.nilFunc),.scalar⟩
         (.leaf)
         (.leaf)))
       (.node 449 ⟨1,8,some (.int .u64 0),.int .u64⟩
        (.node 448 ⟨1,8,some (.nilFunc),.scalar⟩
         (.leaf)
         (.leaf))
        (.node 450 ⟨1,8,some (.nilFunc),.scalar⟩
         (.leaf)
         (.leaf)))))
     (.node 459 ⟨1,8,some (.nilFunc),.scalar⟩
      (.node 455 ⟨1,24,some (.slice none 0 0),.sl 5⟩
       (.node 453 ⟨1,8,some (.nilFunc),.scalar⟩
        (.node 452 ⟨1,8,some (.pointer none),.ptr 3⟩
         (.leaf)
         (.leaf))
        (.node 454 ⟨1,8,some (.nilFunc),.scalar⟩
         (.leaf)
         (.leaf)))
       (.node 457 ⟨1,8,some (.nilFunc),.scalar⟩
        (.node 456 ⟨1,0,some (.tuple #[.slice none 0 0,.int .i64 0]),.scalar⟩
         (.leaf)
         (.leaf))
        (.node 458 ⟨1,8,some (.nilFunc),.scalar⟩
         (.leaf)
         (.leaf))))
      (.node 463 ⟨1,0,some (.tuple #[.int .i64 0,.int .i64 0]),.scalar⟩
       (.node 461 ⟨1,8,some (.nilFunc),.scalar⟩
        (.node 460 ⟨1,8,some (.nilFunc),.scalar⟩
         (.leaf)
         (.leaf))
        (.node 462 ⟨1,8,some (.pointer none),.ptr 449⟩
         (.leaf)
         (.leaf)))
       (.node 465 ⟨1,8,some (.nilFunc),.scalar⟩
        (.node 464 ⟨1,8,some (.nilFunc),.scalar⟩
         (.leaf)
         (.leaf))
        (.leaf)))))
    (.node 482 ⟨1,8,some (.nilFunc),.scalar⟩
     (.node 474 ⟨1,8,some (.nilFunc),.scalar⟩
      (.node 470 ⟨1,8,some (.nilFunc),.scalar⟩
       (.node 468 ⟨1,8,some (.nilFunc),.scalar⟩
        (.node 467 ⟨1,8,some (.nilFunc),.scalar⟩
         (.leaf)
         (.leaf))
        (.node 469 ⟨1,8,some (.nilFunc),.scalar⟩
         (.leaf)
         (.leaf)))
       (.node 472 ⟨1,8,some (.nilFunc),.scalar⟩
        (.node 471 ⟨1,8,some (.nilFunc),.scalar⟩
         (.leaf)
         (.leaf))
        (.node 473 ⟨1,8,some (.nilFunc),.scalar⟩
         (.leaf)
         (.leaf))))
      (.node 478 ⟨5,20,some (.agg #[.int .u32 0,.int .u32 0,.int .u32 0,.int .u32 0,.int .u32 0]),.arr 5 427⟩
       (.node 476 ⟨1,8,some (.nilFunc),.scalar⟩
        (.node 475 ⟨1,8,some (.nilFunc),.scalar⟩
         (.leaf)
         (.leaf))
        (.node 477 ⟨1,8,some (.nilFunc),.scalar⟩
         (.leaf)
         (.leaf)))
       (.node 480 ⟨1,8,some (.nilFunc),.scalar⟩
        (.node 479 ⟨1,8,some (.nilFunc),.scalar⟩
         (.leaf)
         (.leaf))
        (.node 481 ⟨1,8,some (.nilFunc),.scalar⟩
         (.leaf)
         (.leaf)))))
     (.node 490 ⟨1,8,some (.nilFunc),.scalar⟩
      (.node 486 ⟨0,0,some (.agg #[]),.agg [(0,485,0)] false⟩
       (.node 484 ⟨4,40,some (.agg #[.pointer none,.pointer none,.pointer none,.string ByteArray.empty]),.agg [(0,17,1),(1,17,1),(2,17,1),(3,9,1)] false⟩
        (.node 483 ⟨4,40,some (.agg #[.pointer none,.pointer none,.pointer none,.string ByteArray.empty]),.agg [(0,17,1),(1,17,1),(2,17,1),(3,9,1)] false⟩
         (.leaf)
         (.leaf))
        (.node 485 ⟨0,0,some (.agg #[]),.arr 0 16⟩
         (.leaf)
         (.leaf)))
       (.node 488 ⟨1,1,some (.int .u8 0),.int .u8⟩
        (.node 487 ⟨0,0,some (.agg #[]),.agg [(0,485,0)] false⟩
         (.leaf)
         (.leaf))
        (.node 489 ⟨1,1,some (.int .u8 0),.int .u8⟩
         (.leaf)
         (.leaf))))
      (.node 494 ⟨11,48,some (.agg #[.int .u64 0,.int .u64 0,.int .u32 0,.int .u8 0,.int .u8 0,.int .u8 0,.int .u8 0,.nilFunc,.pointer none,.int .i32 0,.int .i32 0]),.agg [(0,12,1),(1,12,1),(2,427,1),(3,488,1),(4,5,1),(5,5,1),(6,489,1),(7,490,1),(8,491,1),(9,492,1),(10,493,1)] false⟩
       (.node 492 ⟨1,4,some (.int .i32 0),.int .i32⟩
        (.node 491 ⟨1,8,some (.pointer none),.ptr 5⟩
         (.leaf)
         (.leaf))
        (.node 493 ⟨1,4,some (.int .i32 0),.int .i32⟩
         (.leaf)
         (.leaf)))
       (.node 496 ⟨1,8,some (.pointer none),.scalar⟩
        (.node 495 ⟨11,48,some (.agg #[.int .u64 0,.int .u64 0,.int .u32 0,.int .u8 0,.int .u8 0,.int .u8 0,.int .u8 0,.nilFunc,.pointer none,.int .i32 0,.int .i32 0]),.agg [(0,12,1),(1,12,1),(2,427,1),(3,488,1),(4,5,1),(5,5,1),(6,489,1),(7,490,1),(8,491,1),(9,492,1),(10,493,1)] false⟩
         (.leaf)
         (.leaf))
        (.leaf))))))))
theorem zh:zX Tryz.prog tb:=zno (by kernel_rfl)
end Go.Cg
