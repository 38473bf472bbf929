/- A part of the walks by abstract values: no statement of its own. -/
import Derived.Test.YtmgdpkcmbnlklaaGreatA3
import Derived.Test.YtmgdpkcmbnlklaaGreatProg
import Derived.KernelRfl
set_option linter.unusedVariables false
set_option linter.unusedSimpArgs false
namespace Go.Cg
open Go.Proofs
def tb:Tab:=.node 112 ⟨1,8,some (.nilFunc),.scalar⟩
 (.node 56 ⟨1,24,some (.slice none 0 0),.sl 71⟩
  (.node 28 ⟨1,8,some (.nilFunc),.scalar⟩
   (.node 14 ⟨2,24,some (.agg #[.string ByteArray.empty,.int .u64 0]),.agg [(0,9,1),(1,12,1)] false⟩
    (.node 7 ⟨4,24,some (.agg #[.int .i64 0,.int .i64 0,.bool false,.int .u8 0]),.agg [(0,2,1),(1,3,1),(2,4,1),(3,6,1)] true⟩
     (.node 3 ⟨1,8,some (.int .i64 0),.int .i64⟩
      (.node 1 ⟨1,8,some (.nilFunc),.scalar⟩
       (.node 0 ⟨1,0,some (.tuple #[]),.scalar⟩
        (.leaf)
        (.leaf))
       (.node 2 ⟨1,8,some (.int .i64 0),.int .i64⟩
        (.leaf)
        (.leaf)))
      (.node 5 ⟨1,1,some (.int .u8 0),.int .u8⟩
       (.node 4 ⟨1,1,some (.bool false),.bool⟩
        (.leaf)
        (.leaf))
       (.node 6 ⟨1,1,some (.int .u8 0),.int .u8⟩
        (.leaf)
        (.leaf))))
     (.node 11 ⟨1,16,some (.string ByteArray.empty),.str⟩
      (.node 9 ⟨1,16,some (.string ByteArray.empty),.str⟩
       (.node 8 ⟨4,24,some (.agg #[.int .i64 0,.int .i64 0,.bool false,.int .u8 0]),.agg [(0,2,1),(1,3,1),(2,4,1),(3,6,1)] true⟩
        (.leaf)
        (.leaf))
       (.node 10 ⟨1,16,some (.string ByteArray.empty),.str⟩
        (.leaf)
        (.leaf)))
      (.node 13 ⟨2,24,some (.agg #[.string ByteArray.empty,.int .u64 0]),.agg [(0,9,1),(1,12,1)] false⟩
       (.node 12 ⟨1,8,some (.int .u64 0),.int .u64⟩
        (.leaf)
        (.leaf))
       (.leaf))))
    (.node 21 ⟨1,4,some (.int .i32 0),.int .i32⟩
     (.node 18 ⟨1,8,some (.agg #[.pointer none]),.agg [(0,17,1)] false⟩
      (.node 16 ⟨1,8,some (.pointer none),.ptr 214⟩
       (.node 15 ⟨1,8,some (.pointer none),.ptr 211⟩
        (.leaf)
        (.leaf))
       (.node 17 ⟨1,8,some (.pointer none),.ptr 222⟩
        (.leaf)
        (.leaf)))
      (.node 20 ⟨1,16,some (.nilIface),.scalar⟩
       (.node 19 ⟨1,8,some (.agg #[.pointer none]),.agg [(0,17,1)] false⟩
        (.leaf)
        (.leaf))
       (.leaf)))
     (.node 25 ⟨1,8,some (.pointer none),.ptr 81⟩
      (.node 23 ⟨1,8,some (.nilFunc),.scalar⟩
       (.node 22 ⟨1,24,some (.slice none 0 0),.sl 36⟩
        (.leaf)
        (.leaf))
       (.node 24 ⟨1,8,some (.nilFunc),.scalar⟩
        (.leaf)
        (.leaf)))
      (.node 27 ⟨1,8,some (.pointer none),.ptr 58⟩
       (.node 26 ⟨1,8,some (.nilFunc),.scalar⟩
        (.leaf)
        (.leaf))
       (.leaf)))))
   (.node 42 ⟨1,8,some (.nilFunc),.scalar⟩
    (.node 35 ⟨5,56,some (.agg #[.int .i64 0,.int .i64 0,.int .i64 0,.int .u64 0,.slice none 0 0]),.agg [(0,3,1),(1,3,1),(2,3,1),(3,33,1),(4,34,1)] true⟩
     (.node 32 ⟨2,32,some (.agg #[.int .i64 0,.slice none 0 0]),.agg [(0,3,1),(1,30,1)] true⟩
      (.node 30 ⟨1,24,some (.slice none 0 0),.sl 65⟩
       (.node 29 ⟨1,8,some (.pointer none),.ptr 32⟩
        (.leaf)
        (.leaf))
       (.node 31 ⟨2,32,some (.agg #[.int .i64 0,.slice none 0 0]),.agg [(0,3,1),(1,30,1)] true⟩
        (.leaf)
        (.leaf)))
      (.node 34 ⟨1,24,some (.slice none 0 0),.sl 33⟩
       (.node 33 ⟨1,8,some (.int .u64 0),.int .u64⟩
        (.leaf)
        (.leaf))
       (.leaf)))
     (.node 39 ⟨1,8,some (.nilFunc),.scalar⟩
      (.node 37 ⟨1,8,some (.nilFunc),.scalar⟩
       (.node 36 ⟨5,56,some (.agg #[.int .i64 0,.int .i64 0,.int .i64 0,.int .u64 0,.slice none 0 0]),.agg [(0,3,1),(1,3,1),(2,3,1),(3,33,1),(4,34,1)] true⟩
        (.leaf)
        (.leaf))
       (.node 38 ⟨1,8,some (.nilFunc),.scalar⟩
        (.leaf)
        (.leaf)))
      (.node 41 ⟨1,8,some (.nilFunc),.scalar⟩
       (.node 40 ⟨1,8,some (.nilFunc),.scalar⟩
        (.leaf)
        (.leaf))
       (.leaf))))
    (.node 49 ⟨1,8,some (.nilFunc),.scalar⟩
     (.node 46 ⟨1,8,some (.nilFunc),.scalar⟩
      (.node 44 ⟨1,8,some (.nilFunc),.scalar⟩
       (.node 43 ⟨1,8,some (.nilFunc),.scalar⟩
        (.leaf)
        (.leaf))
       (.node 45 ⟨1,8,some (.nilFunc),.scalar⟩
        (.leaf)
        (.leaf)))
      (.node 48 ⟨4,48,some (.agg #[.int .i64 0,.int .i64 0,.int .u64 0,.slice none 0 0]),.agg [(0,3,1),(1,3,1),(2,33,1),(3,34,1)] true⟩
       (.node 47 ⟨4,48,some (.agg #[.int .i64 0,.int .i64 0,.int .u64 0,.slice none 0 0]),.agg [(0,3,1),(1,3,1),(2,33,1),(3,34,1)] true⟩
        (.leaf)
        (.leaf))
       (.leaf)))
     (.node 53 ⟨1,24,some (.slice none 0 0),.sl 118⟩
      (.node 51 ⟨1,24,some (.slice none 0 0),.sl 98⟩
       (.node 50 ⟨1,8,some (.nilFunc),.scalar⟩
        (.leaf)
        (.leaf))
       (.node 52 ⟨1,24,some (.slice none 0 0),.sl 92⟩
        (.leaf)
        (.leaf)))
      (.node 55 ⟨4,80,some (.agg #[.slice none 0 0,.slice none 0 0,.slice none 0 0,.int .i64 0]),.agg [(0,51,1),(1,52,1),(2,53,1),(3,3,1)] true⟩
       (.node 54 ⟨4,80,some (.agg #[.slice none 0 0,.slice none 0 0,.slice none 0 0,.int .i64 0]),.agg [(0,51,1),(1,52,1),(2,53,1),(3,3,1)] true⟩
        (.leaf)
        (.leaf))
       (.leaf))))))
  (.node 84 ⟨1,8,some (.nilFunc),.scalar⟩
   (.node 70 ⟨5,40,some (.agg #[.int .i64 0,.int .i64 0,.int .u64 0,.int .u64 0,.int .i64 0]),.agg [(0,3,1),(1,3,1),(2,33,1),(3,33,1),(4,3,1)] true⟩
    (.node 63 ⟨1,8,some (.nilFunc),.scalar⟩
     (.node 60 ⟨1,8,some (.nilFunc),.scalar⟩
      (.node 58 ⟨3,40,some (.agg #[.pointer none,.int .i64 0,.slice none 0 0]),.agg [(0,25,1),(1,3,1),(2,56,1)] true⟩
       (.node 57 ⟨3,40,some (.agg #[.pointer none,.int .i64 0,.slice none 0 0]),.agg [(0,25,1),(1,3,1),(2,56,1)] true⟩
        (.leaf)
        (.leaf))
       (.node 59 ⟨1,8,some (.nilFunc),.scalar⟩
        (.leaf)
        (.leaf)))
      (.node 62 ⟨1,8,some (.nilFunc),.scalar⟩
       (.node 61 ⟨1,8,some (.nilFunc),.scalar⟩
        (.leaf)
        (.leaf))
       (.leaf)))
     (.node 67 ⟨1,8,some (.nilFunc),.scalar⟩
      (.node 65 ⟨5,72,some (.agg #[.int .i64 0,.int .i64 0,.int .i64 0,.slice none 0 0,.slice none 0 0]),.agg [(0,3,1),(1,3,1),(2,3,1),(3,34,1),(4,34,1)] true⟩
       (.node 64 ⟨5,72,some (.agg #[.int .i64 0,.int .i64 0,.int .i64 0,.slice none 0 0,.slice none 0 0]),.agg [(0,3,1),(1,3,1),(2,3,1),(3,34,1),(4,34,1)] true⟩
        (.leaf)
        (.leaf))
       (.node 66 ⟨1,8,some (.nilFunc),.scalar⟩
        (.leaf)
        (.leaf)))
      (.node 69 ⟨1,8,some (.nilFunc),.scalar⟩
       (.node 68 ⟨1,8,some (.pointer none),.ptr 71⟩
        (.leaf)
        (.leaf))
       (.leaf))))
    (.node 77 ⟨1,8,some (.map none),.map 86 3⟩
     (.node 74 ⟨1,8,some (.int .i64 0),.int .i64⟩
      (.node 72 ⟨1,8,some (.nilFunc),.scalar⟩
       (.node 71 ⟨5,40,some (.agg #[.int .i64 0,.int .i64 0,.int .u64 0,.int .u64 0,.int .i64 0]),.agg [(0,3,1),(1,3,1),(2,33,1),(3,33,1),(4,3,1)] true⟩
        (.leaf)
        (.leaf))
       (.node 73 ⟨1,8,some (.nilFunc),.scalar⟩
        (.leaf)
        (.leaf)))
      (.node 76 ⟨1,8,some (.nilFunc),.scalar⟩
       (.node 75 ⟨1,0,some (.tuple #[.int .i64 0,.int .i64 0]),.scalar⟩
        (.leaf)
        (.leaf))
       (.leaf)))
     (.node 81 ⟨8,112,some (.agg #[.slice none 0 0,.slice none 0 0,.slice none 0 0,.map none,.int .u64 0,.int .u64 0,.int .u64 0,.int .i64 0]),.agg [(0,34,1),(1,78,1),(2,79,1),(3,77,1),(4,33,1),(5,33,1),(6,33,1),(7,3,1)] true⟩
      (.node 79 ⟨1,24,some (.slice none 0 0),.sl 3⟩
       (.node 78 ⟨1,24,some (.slice none 0 0),.sl 83⟩
        (.leaf)
        (.leaf))
       (.node 80 ⟨8,112,some (.agg #[.slice none 0 0,.slice none 0 0,.slice none 0 0,.map none,.int .u64 0,.int .u64 0,.int .u64 0,.int .i64 0]),.agg [(0,34,1),(1,78,1),(2,79,1),(3,77,1),(4,33,1),(5,33,1),(6,33,1),(7,3,1)] true⟩
        (.leaf)
        (.leaf)))
      (.node 83 ⟨1,24,some (.slice none 0 0),.sl 86⟩
       (.node 82 ⟨1,8,some (.nilFunc),.scalar⟩
        (.leaf)
        (.leaf))
       (.leaf)))))
   (.node 98 ⟨4,56,some (.agg #[.string ByteArray.empty,.int .i64 0,.int .i64 0,.slice none 0 0]),.agg [(0,9,1),(1,3,1),(2,3,1),(3,79,1)] true⟩
    (.node 91 ⟨7,64,some (.agg #[.string ByteArray.empty,.int .i64 0,.int .i64 0,.int .i64 0,.int .i64 0,.bool false,.bool false]),.agg [(0,9,1),(1,3,1),(2,86,4),(6,4,1)] true⟩
     (.node 88 ⟨1,8,some (.nilFunc),.scalar⟩
      (.node 86 ⟨4,32,some (.agg #[.int .i64 0,.int .i64 0,.int .i64 0,.bool false]),.agg [(0,3,1),(1,3,1),(2,3,1),(3,4,1)] true⟩
       (.node 85 ⟨4,32,some (.agg #[.int .i64 0,.int .i64 0,.int .i64 0,.bool false]),.agg [(0,3,1),(1,3,1),(2,3,1),(3,4,1)] true⟩
        (.leaf)
        (.leaf))
       (.node 87 ⟨1,8,some (.nilFunc),.scalar⟩
        (.leaf)
        (.leaf)))
      (.node 90 ⟨1,8,some (.nilFunc),.scalar⟩
       (.node 89 ⟨1,8,some (.nilFunc),.scalar⟩
        (.leaf)
        (.leaf))
       (.leaf)))
     (.node 95 ⟨1,8,some (.nilFunc),.scalar⟩
      (.node 93 ⟨1,8,some (.nilFunc),.scalar⟩
       (.node 92 ⟨7,64,some (.agg #[.string ByteArray.empty,.int .i64 0,.int .i64 0,.int .i64 0,.int .i64 0,.bool false,.bool false]),.agg [(0,9,1),(1,3,1),(2,86,4),(6,4,1)] true⟩
        (.leaf)
        (.leaf))
       (.node 94 ⟨1,8,some (.nilFunc),.scalar⟩
        (.leaf)
        (.leaf)))
      (.node 97 ⟨4,56,some (.agg #[.string ByteArray.empty,.int .i64 0,.int .i64 0,.slice none 0 0]),.agg [(0,9,1),(1,3,1),(2,3,1),(3,79,1)] true⟩
       (.node 96 ⟨1,8,some (.nilFunc),.scalar⟩
        (.leaf)
        (.leaf))
       (.leaf))))
    (.node 105 ⟨1,8,some (.nilFunc),.scalar⟩
     (.node 102 ⟨1,8,some (.nilFunc),.scalar⟩
      (.node 100 ⟨1,8,some (.int .u64 0),.int .u64⟩
       (.node 99 ⟨1,8,some (.nilFunc),.scalar⟩
        (.leaf)
        (.leaf))
       (.node 101 ⟨1,8,some (.nilFunc),.scalar⟩
        (.leaf)
        (.leaf)))
      (.node 104 ⟨1,8,some (.nilFunc),.scalar⟩
       (.node 103 ⟨1,8,some (.nilFunc),.scalar⟩
        (.leaf)
        (.leaf))
       (.leaf)))
     (.node 109 ⟨4,32,some (.agg #[.int .i64 0,.int .i64 0,.int .i64 0,.bool false]),.agg [(0,3,1),(1,3,1),(2,3,1),(3,4,1)] true⟩
      (.node 107 ⟨1,8,some (.nilFunc),.scalar⟩
       (.node 106 ⟨1,8,some (.nilFunc),.scalar⟩
        (.leaf)
        (.leaf))
       (.node 108 ⟨1,8,some (.nilFunc),.scalar⟩
        (.leaf)
        (.leaf)))
      (.node 111 ⟨1,8,some (.nilFunc),.scalar⟩
       (.node 110 ⟨1,8,some (.nilFunc),.scalar⟩
        (.leaf)
        (.leaf))
       (.leaf)))))))
 (.node 168 ⟨1,8,some (.nilFunc),.scalar⟩
  (.node 140 ⟨1,8,some (.nilFunc),.scalar⟩
   (.node 126 ⟨1,8,some (.nilFunc),.scalar⟩
    (.node 119 ⟨1,8,some (.nilFunc),.scalar⟩
     (.node 116 ⟨1,24,some (.slice none 0 0),.sl 143⟩
      (.node 114 ⟨1,8,some (.nilFunc),.scalar⟩
       (.node 113 ⟨1,8,some (.nilFunc),.scalar⟩
        (.leaf)
        (.leaf))
       (.node 115 ⟨1,24,some (.slice none 0 0),.sl 138⟩
        (.leaf)
        (.leaf)))
      (.node 118 ⟨12,168,some (.agg #[.string ByteArray.empty,.int .i64 0,.int .i64 0,.slice none 0 0,.int .i64 0,.int .i64 0,.int .i64 0,.bool false,.slice none 0 0,.int .i64 0,.slice none 0 0,.slice none 0 0]),.agg [(0,9,1),(1,3,1),(2,3,1),(3,83,1),(4,86,4),(8,83,1),(9,3,1),(10,115,1),(11,116,1)] true⟩
       (.node 117 ⟨12,168,some (.agg #[.string ByteArray.empty,.int .i64 0,.int .i64 0,.slice none 0 0,.int .i64 0,.int .i64 0,.int .i64 0,.bool false,.slice none 0 0,.int .i64 0,.slice none 0 0,.slice none 0 0]),.agg [(0,9,1),(1,3,1),(2,3,1),(3,83,1),(4,86,4),(8,83,1),(9,3,1),(10,115,1),(11,116,1)] true⟩
        (.leaf)
        (.leaf))
       (.leaf)))
     (.node 123 ⟨1,8,some (.nilFunc),.scalar⟩
      (.node 121 ⟨1,8,some (.nilFunc),.scalar⟩
       (.node 120 ⟨1,8,some (.nilFunc),.scalar⟩
        (.leaf)
        (.leaf))
       (.node 122 ⟨1,8,some (.nilFunc),.scalar⟩
        (.leaf)
        (.leaf)))
      (.node 125 ⟨1,8,some (.nilFunc),.scalar⟩
       (.node 124 ⟨1,8,some (.nilFunc),.scalar⟩
        (.leaf)
        (.leaf))
       (.leaf))))
    (.node 133 ⟨1,0,some (.tuple #[.slice none 0 0,.int .i64 0]),.scalar⟩
     (.node 130 ⟨1,8,some (.nilFunc),.scalar⟩
      (.node 128 ⟨1,8,some (.map none),.map 3 3⟩
       (.node 127 ⟨1,8,some (.nilFunc),.scalar⟩
        (.leaf)
        (.leaf))
       (.node 129 ⟨1,8,some (.nilFunc),.scalar⟩
        (.leaf)
        (.leaf)))
      (.node 132 ⟨1,24,some (.slice none 0 0),.sl 5⟩
       (.node 131 ⟨1,8,some (.nilFunc),.scalar⟩
        (.leaf)
        (.leaf))
       (.leaf)))
     (.node 137 ⟨6,48,some (.agg #[.int .i64 0,.int .i64 0,.int .i64 0,.int .i64 0,.int .i64 0,.bool false]),.agg [(0,3,1),(1,2,1),(2,86,4)] true⟩
      (.node 135 ⟨1,8,some (.nilFunc),.scalar⟩
       (.node 134 ⟨1,8,some (.nilFunc),.scalar⟩
        (.leaf)
        (.leaf))
       (.node 136 ⟨1,8,some (.nilFunc),.scalar⟩
        (.leaf)
        (.leaf)))
      (.node 139 ⟨1,8,some (.nilFunc),.scalar⟩
       (.node 138 ⟨6,48,some (.agg #[.int .i64 0,.int .i64 0,.int .i64 0,.int .i64 0,.int .i64 0,.bool false]),.agg [(0,3,1),(1,2,1),(2,86,4)] true⟩
        (.leaf)
        (.leaf))
       (.leaf)))))
   (.node 154 ⟨3,32,some (.agg #[.string ByteArray.empty,.int .i64 0,.int .i64 0]),.agg [(0,9,1),(1,3,1),(2,3,1)] true⟩
    (.node 147 ⟨1,8,some (.nilFunc),.scalar⟩
     (.node 144 ⟨1,8,some (.nilFunc),.scalar⟩
      (.node 142 ⟨10,80,some (.agg #[.int .i64 0,.int .i64 0,.int .i64 0,.int .i64 0,.int .i64 0,.int .i64 0,.int .i64 0,.int .i64 0,.int .i64 0,.bool false]),.agg [(0,3,1),(1,3,1),(2,3,1),(3,3,1),(4,3,1),(5,3,1),(6,86,4)] true⟩
       (.node 141 ⟨1,8,some (.nilFunc),.scalar⟩
        (.leaf)
        (.leaf))
       (.node 143 ⟨10,80,some (.agg #[.int .i64 0,.int .i64 0,.int .i64 0,.int .i64 0,.int .i64 0,.int .i64 0,.int .i64 0,.int .i64 0,.int .i64 0,.bool false]),.agg [(0,3,1),(1,3,1),(2,3,1),(3,3,1),(4,3,1),(5,3,1),(6,86,4)] true⟩
        (.leaf)
        (.leaf)))
      (.node 146 ⟨1,8,some (.nilFunc),.scalar⟩
       (.node 145 ⟨1,8,some (.nilFunc),.scalar⟩
        (.leaf)
        (.leaf))
       (.leaf)))
     (.node 151 ⟨1,8,some (.nilFunc),.scalar⟩
      (.node 149 ⟨1,8,some (.nilFunc),.scalar⟩
       (.node 148 ⟨1,8,some (.nilFunc),.scalar⟩
        (.leaf)
        (.leaf))
       (.node 150 ⟨1,8,some (.nilFunc),.scalar⟩
        (.leaf)
        (.leaf)))
      (.node 153 ⟨3,32,some (.agg #[.string ByteArray.empty,.int .i64 0,.int .i64 0]),.agg [(0,9,1),(1,3,1),(2,3,1)] true⟩
       (.node 152 ⟨1,8,some (.nilFunc),.scalar⟩
        (.leaf)
        (.leaf))
       (.leaf))))
    (.node 161 ⟨1,8,some (.int .i64 0),.int .i64⟩
     (.node 158 ⟨1,8,some (.nilFunc),.scalar⟩
      (.node 156 ⟨1,8,some (.nilFunc),.scalar⟩
       (.node 155 ⟨1,0,some (.tuple #[.agg #[.string ByteArray.empty,.int .i64 0,.int .i64 0],.int .i64 0]),.scalar⟩
        (.leaf)
        (.leaf))
       (.node 157 ⟨1,8,some (.nilFunc),.scalar⟩
        (.leaf)
        (.leaf)))
      (.node 160 ⟨1,8,some (.nilFunc),.scalar⟩
       (.node 159 ⟨1,8,some (.nilFunc),.scalar⟩
        (.leaf)
        (.leaf))
       (.leaf)))
     (.node 165 ⟨1,8,some (.nilFunc),.scalar⟩
      (.node 163 ⟨1,8,some (.nilFunc),.scalar⟩
       (.node 162 ⟨1,0,some (.tuple #[.int .i64 0,.int .i64 0]),.scalar⟩
        (.leaf)
        (.leaf))
       (.node 164 ⟨1,8,some (.nilFunc),.scalar⟩
        (.leaf)
        (.leaf)))
      (.node 167 ⟨1,8,some (.nilFunc),.scalar⟩
       (.node 166 ⟨1,0,some (.tuple #[.int .i64 0,.bool false]),.scalar⟩
        (.leaf)
        (.leaf))
       (.leaf))))))
  (.node 196 ⟨1,8,some (.nilFunc),.scalar⟩
   (.node 182 ⟨2,16,some (.agg #[.int .i64 0,.int .i64 0]),.agg [(0,3,1),(1,3,1)] true⟩
    (.node 175 ⟨1,8,some (.nilFunc),.scalar⟩
     (.node 172 ⟨1,8,some (.nilFunc),.scalar⟩
      (.node 170 ⟨1,8,some (.nilFunc),.scalar⟩
       (.node 169 ⟨1,4,some (.int .u32 0),.int .u32⟩
        (.leaf)
        (.leaf))
       (.node 171 ⟨1,8,some (.nilFunc),.scalar⟩
        (.leaf)
        (.leaf)))
      (.node 174 ⟨1,8,some (.nilFunc),.scalar⟩
       (.node 173 ⟨1,8,some (.nilFunc),.scalar⟩
        (.leaf)
        (.leaf))
       (.leaf)))
     (.node 179 ⟨1,8,some (.nilFunc),.scalar⟩
      (.node 177 ⟨2,16,some (.agg #[.int .i64 0,.int .i64 0]),.agg [(0,3,1),(1,3,1)] true⟩
       (.node 176 ⟨1,8,some (.nilFunc),.scalar⟩
        (.leaf)
        (.leaf))
       (.node 178 ⟨2,16,some (.agg #[.int .i64 0,.int .i64 0]),.agg [(0,3,1),(1,3,1)] true⟩
        (.leaf)
        (.leaf)))
      (.node 181 ⟨1,8,some (.nilFunc),.scalar⟩
       (.node 180 ⟨1,24,some (.slice none 0 0),.sl 185⟩
        (.leaf)
        (.leaf))
       (.leaf))))
    (.node 189 ⟨1,8,some (.nilFunc),.scalar⟩
     (.node 186 ⟨1,8,some (.nilFunc),.scalar⟩
      (.node 184 ⟨4,32,some (.agg #[.int .i64 0,.int .i64 0,.int .i64 0,.int .i64 0]),.agg [(0,183,2),(2,178,2)] true⟩
       (.node 183 ⟨2,16,some (.agg #[.int .i64 0,.int .i64 0]),.agg [(0,3,1),(1,3,1)] true⟩
        (.leaf)
        (.leaf))
       (.node 185 ⟨4,32,some (.agg #[.int .i64 0,.int .i64 0,.int .i64 0,.int .i64 0]),.agg [(0,183,2),(2,178,2)] true⟩
        (.leaf)
        (.leaf)))
      (.node 188 ⟨1,8,some (.nilFunc),.scalar⟩
       (.node 187 ⟨1,8,some (.nilFunc),.scalar⟩
        (.leaf)
        (.leaf))
       (.leaf)))
     (.node 193 ⟨1,8,some (.pointer none),.ptr 3⟩
      (.node 191 ⟨1,8,some (.nilFunc),.scalar⟩
       (.node 190 ⟨1,8,some (.int .u64 0),.int .u64⟩
        (.leaf)
        (.leaf))
       (.node 192 ⟨1,8,some (.nilFunc),.scalar⟩
        (.leaf)
        (.leaf)))
      (.node 195 ⟨1,0,some (.tuple #[.int .u64 0,.int .u64 0]),.scalar⟩
       (.node 194 ⟨1,8,some (.nilFunc),.scalar⟩
        (.leaf)
        (.leaf))
       (.leaf)))))
   (.node 210 ⟨4,40,some (.agg #[.pointer none,.pointer none,.pointer none,.string ByteArray.empty]),.agg [(0,17,1),(1,17,1),(2,17,1),(3,9,1)] false⟩
    (.node 203 ⟨1,0,some (.tuple #[.int .i64 0,.int .i64 0]),.scalar⟩
     (.node 200 ⟨1,8,some (.nilFunc),.scalar⟩
      (.node 198 ⟨5,20,some (.agg #[.int .u32 0,.int .u32 0,.int .u32 0,.int .u32 0,.int .u32 0]),.arr 5 169⟩
       (.node 197 ⟨1,8,some (.nilFunc),.scalar⟩
        (.leaf)
        (.leaf))
       (.node 199 ⟨1,8,some (.nilFunc),.scalar⟩
        (.leaf)
        (.leaf)))
      (.node 202 ⟨1,8,some (.pointer none),.ptr 190⟩
       (.node 201 ⟨1,8,some (.nilFunc),.scalar⟩
        (.leaf)
        (.leaf))
       (.leaf)))
     (.node 207 ⟨1,0,some (.tuple #[.int .u64 0,.int .u64 0]),.scalar⟩
      (.node 205 ⟨1,0,some (.tuple #[.int .u32 0,.int .u32 0]),.scalar⟩
       (.node 204 ⟨1,8,some (.nilFunc),.scalar⟩
        (.leaf)
        (.leaf))
       (.node 206 ⟨1,8,some (.nilFunc),.scalar⟩
        (.leaf)
        (.leaf)))
      (.node 209 ⟨1,8,some (.nilFunc),.scalar⟩
       (.node 208 ⟨1,8,some (.nilFunc),.scalar⟩
        (.leaf)
        (.leaf))
       (.leaf))))
    (.node 217 ⟨1,8,some (.nilFunc),.scalar⟩
     (.node 214 ⟨0,0,some (.agg #[]),.agg [(0,212,0)] false⟩
      (.node 212 ⟨0,0,some (.agg #[]),.arr 0 16⟩
       (.node 211 ⟨4,40,some (.agg #[.pointer none,.pointer none,.pointer none,.string ByteArray.empty]),.agg [(0,17,1),(1,17,1),(2,17,1),(3,9,1)] false⟩
        (.leaf)
        (.leaf))
       (.node 213 ⟨0,0,some (.agg #[]),.agg [(0,212,0)] false⟩
        (.leaf)
        (.leaf)))
      (.node 216 ⟨1,1,some (.int .u8 0),.int .u8⟩
       (.node 215 ⟨1,1,some (.int .u8 0),.int .u8⟩
        (.leaf)
        (.leaf))
       (.leaf)))
     (.node 221 ⟨11,48,some (.agg #[.int .u64 0,.int .u64 0,.int .u32 0,.int .u8 0,.int .u8 0,.int .u8 0,.int .u8 0,.nilFunc,.pointer none,.int .i32 0,.int .i32 0]),.agg [(0,12,1),(1,12,1),(2,169,1),(3,215,1),(4,5,1),(5,5,1),(6,216,1),(7,217,1),(8,218,1),(9,219,1),(10,220,1)] false⟩
      (.node 219 ⟨1,4,some (.int .i32 0),.int .i32⟩
       (.node 218 ⟨1,8,some (.pointer none),.ptr 5⟩
        (.leaf)
        (.leaf))
       (.node 220 ⟨1,4,some (.int .i32 0),.int .i32⟩
        (.leaf)
        (.leaf)))
      (.node 223 ⟨1,8,some (.pointer none),.scalar⟩
       (.node 222 ⟨11,48,some (.agg #[.int .u64 0,.int .u64 0,.int .u32 0,.int .u8 0,.int .u8 0,.int .u8 0,.int .u8 0,.nilFunc,.pointer none,.int .i32 0,.int .i32 0]),.agg [(0,12,1),(1,12,1),(2,169,1),(3,215,1),(4,5,1),(5,5,1),(6,216,1),(7,217,1),(8,218,1),(9,219,1),(10,220,1)] false⟩
        (.leaf)
        (.leaf))
       (.leaf)))))))
theorem zk:yc Tryz.prog tb:=zkM (by kernel_rfl)
end Go.Cg
