/- A part of the walks by abstract values: no statement of its own. -/
import Derived.Test.YtdlokcmodgccnaaGreatF3
import Derived.Test.YtdlokcmodgccnaaGreatProg
import Derived.KernelRfl
set_option linter.unusedVariables false
set_option linter.unusedSimpArgs false
namespace Go.Cg
open Go.Proofs
def tb:Tab:=.node 148 ⟨1,0,some (.tuple #[.int .i64 0,.bool false]),.scalar⟩
 (.node 74 ⟨1,8,some (.nilFunc),.scalar⟩
  (.node 37 ⟨2,32,some (.agg #[.slice none 0 0,.int .i64 0]),.agg [(0,35,1),(1,3,1)] true⟩
   (.node 18 ⟨1,8,some (.agg #[.pointer none]),.agg [(0,17,1)] false⟩
    (.node 9 ⟨1,16,some (.string ByteArray.empty),.str⟩
     (.node 4 ⟨1,1,some (.bool false),.bool⟩
      (.node 2 ⟨1,8,some (.int .i64 0),.int .i64⟩
       (.node 1 ⟨1,8,some (.nilFunc),.scalar⟩
        (.node 0 ⟨1,0,some (.tuple #[]),.scalar⟩
         (.leaf)
         (.leaf))
        (.leaf))
       (.node 3 ⟨1,8,some (.int .i64 0),.int .i64⟩
        (.leaf)
        (.leaf)))
      (.node 7 ⟨4,24,some (.agg #[.int .i64 0,.int .i64 0,.bool false,.int .u8 0]),.agg [(0,2,1),(1,3,1),(2,4,1),(3,6,1)] true⟩
       (.node 6 ⟨1,1,some (.int .u8 0),.int .u8⟩
        (.node 5 ⟨1,1,some (.int .u8 0),.int .u8⟩
         (.leaf)
         (.leaf))
        (.leaf))
       (.node 8 ⟨4,24,some (.agg #[.int .i64 0,.int .i64 0,.bool false,.int .u8 0]),.agg [(0,2,1),(1,3,1),(2,4,1),(3,6,1)] true⟩
        (.leaf)
        (.leaf))))
     (.node 14 ⟨2,24,some (.agg #[.string ByteArray.empty,.int .u64 0]),.agg [(0,9,1),(1,12,1)] false⟩
      (.node 12 ⟨1,8,some (.int .u64 0),.int .u64⟩
       (.node 11 ⟨1,16,some (.string ByteArray.empty),.str⟩
        (.node 10 ⟨1,16,some (.string ByteArray.empty),.str⟩
         (.leaf)
         (.leaf))
        (.leaf))
       (.node 13 ⟨2,24,some (.agg #[.string ByteArray.empty,.int .u64 0]),.agg [(0,9,1),(1,12,1)] false⟩
        (.leaf)
        (.leaf)))
      (.node 16 ⟨1,8,some (.pointer none),.ptr 285⟩
       (.node 15 ⟨1,8,some (.pointer none),.ptr 282⟩
        (.leaf)
        (.leaf))
       (.node 17 ⟨1,8,some (.pointer none),.ptr 294⟩
        (.leaf)
        (.leaf)))))
    (.node 28 ⟨1,8,some (.nilFunc),.scalar⟩
     (.node 23 ⟨1,24,some (.slice none 0 0),.sl 109⟩
      (.node 21 ⟨1,4,some (.int .i32 0),.int .i32⟩
       (.node 20 ⟨1,16,some (.nilIface),.scalar⟩
        (.node 19 ⟨1,8,some (.agg #[.pointer none]),.agg [(0,17,1)] false⟩
         (.leaf)
         (.leaf))
        (.leaf))
       (.node 22 ⟨1,24,some (.slice none 0 0),.sl 69⟩
        (.leaf)
        (.leaf)))
      (.node 26 ⟨4,80,some (.agg #[.slice none 0 0,.slice none 0 0,.slice none 0 0,.int .i64 0]),.agg [(0,22,1),(1,23,1),(2,24,1),(3,3,1)] true⟩
       (.node 25 ⟨4,80,some (.agg #[.slice none 0 0,.slice none 0 0,.slice none 0 0,.int .i64 0]),.agg [(0,22,1),(1,23,1),(2,24,1),(3,3,1)] true⟩
        (.node 24 ⟨1,24,some (.slice none 0 0),.sl 46⟩
         (.leaf)
         (.leaf))
        (.leaf))
       (.node 27 ⟨1,8,some (.nilFunc),.scalar⟩
        (.leaf)
        (.leaf))))
     (.node 33 ⟨1,0,some (.tuple #[.int .i64 0,.int .i64 0]),.scalar⟩
      (.node 31 ⟨1,8,some (.nilFunc),.scalar⟩
       (.node 30 ⟨1,0,some (.tuple #[.int .i64 0,.int .i64 0]),.scalar⟩
        (.node 29 ⟨1,8,some (.int .i64 0),.int .i64⟩
         (.leaf)
         (.leaf))
        (.leaf))
       (.node 32 ⟨1,8,some (.nilFunc),.scalar⟩
        (.leaf)
        (.leaf)))
      (.node 35 ⟨1,24,some (.slice none 0 0),.sl 40⟩
       (.node 34 ⟨1,8,some (.nilFunc),.scalar⟩
        (.leaf)
        (.leaf))
       (.node 36 ⟨2,32,some (.agg #[.slice none 0 0,.int .i64 0]),.agg [(0,35,1),(1,3,1)] true⟩
        (.leaf)
        (.leaf))))))
   (.node 56 ⟨1,8,some (.nilFunc),.scalar⟩
    (.node 47 ⟨1,8,some (.nilFunc),.scalar⟩
     (.node 42 ⟨4,32,some (.agg #[.int .i64 0,.int .i64 0,.int .i64 0,.bool false]),.agg [(0,3,1),(1,3,1),(2,3,1),(3,4,1)] true⟩
      (.node 40 ⟨1,24,some (.slice none 0 0),.sl 42⟩
       (.node 39 ⟨1,8,some (.nilFunc),.scalar⟩
        (.node 38 ⟨1,0,some (.tuple #[.agg #[.slice none 0 0,.int .i64 0],.int .i64 0,.int .i64 0]),.scalar⟩
         (.leaf)
         (.leaf))
        (.leaf))
       (.node 41 ⟨4,32,some (.agg #[.int .i64 0,.int .i64 0,.int .i64 0,.bool false]),.agg [(0,3,1),(1,3,1),(2,3,1),(3,4,1)] true⟩
        (.leaf)
        (.leaf)))
      (.node 45 ⟨12,168,some (.agg #[.string ByteArray.empty,.int .i64 0,.int .i64 0,.slice none 0 0,.int .i64 0,.int .i64 0,.int .i64 0,.bool false,.slice none 0 0,.int .i64 0,.slice none 0 0,.slice none 0 0]),.agg [(0,9,1),(1,3,1),(2,3,1),(3,40,1),(4,42,4),(8,40,1),(9,3,1),(10,43,1),(11,44,1)] true⟩
       (.node 44 ⟨1,24,some (.slice none 0 0),.sl 63⟩
        (.node 43 ⟨1,24,some (.slice none 0 0),.sl 49⟩
         (.leaf)
         (.leaf))
        (.leaf))
       (.node 46 ⟨12,168,some (.agg #[.string ByteArray.empty,.int .i64 0,.int .i64 0,.slice none 0 0,.int .i64 0,.int .i64 0,.int .i64 0,.bool false,.slice none 0 0,.int .i64 0,.slice none 0 0,.slice none 0 0]),.agg [(0,9,1),(1,3,1),(2,3,1),(3,40,1),(4,42,4),(8,40,1),(9,3,1),(10,43,1),(11,44,1)] true⟩
        (.leaf)
        (.leaf))))
     (.node 52 ⟨1,8,some (.nilFunc),.scalar⟩
      (.node 50 ⟨1,8,some (.nilFunc),.scalar⟩
       (.node 49 ⟨6,48,some (.agg #[.int .i64 0,.int .i64 0,.int .i64 0,.int .i64 0,.int .i64 0,.bool false]),.agg [(0,3,1),(1,2,1),(2,42,4)] true⟩
        (.node 48 ⟨6,48,some (.agg #[.int .i64 0,.int .i64 0,.int .i64 0,.int .i64 0,.int .i64 0,.bool false]),.agg [(0,3,1),(1,2,1),(2,42,4)] true⟩
         (.leaf)
         (.leaf))
        (.leaf))
       (.node 51 ⟨1,8,some (.nilFunc),.scalar⟩
        (.leaf)
        (.leaf)))
      (.node 54 ⟨16,248,some (.agg #[.slice none 0 0,.slice none 0 0,.slice none 0 0,.int .i64 0,.string ByteArray.empty,.int .i64 0,.int .i64 0,.slice none 0 0,.int .i64 0,.int .i64 0,.int .i64 0,.bool false,.slice none 0 0,.int .i64 0,.slice none 0 0,.slice none 0 0]),.agg [(0,26,4),(4,46,12)] true⟩
       (.node 53 ⟨1,8,some (.nilFunc),.scalar⟩
        (.leaf)
        (.leaf))
       (.node 55 ⟨16,248,some (.agg #[.slice none 0 0,.slice none 0 0,.slice none 0 0,.int .i64 0,.string ByteArray.empty,.int .i64 0,.int .i64 0,.slice none 0 0,.int .i64 0,.int .i64 0,.int .i64 0,.bool false,.slice none 0 0,.int .i64 0,.slice none 0 0,.slice none 0 0]),.agg [(0,26,4),(4,46,12)] true⟩
        (.leaf)
        (.leaf)))))
    (.node 65 ⟨1,8,some (.nilFunc),.scalar⟩
     (.node 61 ⟨2,16,some (.agg #[.int .i64 0,.int .i64 0]),.agg [(0,3,1),(1,3,1)] true⟩
      (.node 59 ⟨1,8,some (.nilFunc),.scalar⟩
       (.node 58 ⟨1,24,some (.slice none 0 0),.sl 61⟩
        (.node 57 ⟨1,8,some (.nilFunc),.scalar⟩
         (.leaf)
         (.leaf))
        (.leaf))
       (.node 60 ⟨2,16,some (.agg #[.int .i64 0,.int .i64 0]),.agg [(0,3,1),(1,3,1)] true⟩
        (.leaf)
        (.leaf)))
      (.node 63 ⟨10,80,some (.agg #[.int .i64 0,.int .i64 0,.int .i64 0,.int .i64 0,.int .i64 0,.int .i64 0,.int .i64 0,.int .i64 0,.int .i64 0,.bool false]),.agg [(0,3,1),(1,3,1),(2,3,1),(3,3,1),(4,3,1),(5,3,1),(6,42,4)] true⟩
       (.node 62 ⟨10,80,some (.agg #[.int .i64 0,.int .i64 0,.int .i64 0,.int .i64 0,.int .i64 0,.int .i64 0,.int .i64 0,.int .i64 0,.int .i64 0,.bool false]),.agg [(0,3,1),(1,3,1),(2,3,1),(3,3,1),(4,3,1),(5,3,1),(6,42,4)] true⟩
        (.leaf)
        (.leaf))
       (.node 64 ⟨1,8,some (.pointer none),.ptr 83⟩
        (.leaf)
        (.leaf))))
     (.node 70 ⟨2,16,some (.agg #[.int .i64 0,.int .i64 0]),.agg [(0,3,1),(1,3,1)] true⟩
      (.node 68 ⟨4,56,some (.agg #[.string ByteArray.empty,.int .i64 0,.int .i64 0,.slice none 0 0]),.agg [(0,9,1),(1,3,1),(2,3,1),(3,67,1)] true⟩
       (.node 67 ⟨1,24,some (.slice none 0 0),.sl 3⟩
        (.node 66 ⟨1,8,some (.nilFunc),.scalar⟩
         (.leaf)
         (.leaf))
        (.leaf))
       (.node 69 ⟨4,56,some (.agg #[.string ByteArray.empty,.int .i64 0,.int .i64 0,.slice none 0 0]),.agg [(0,9,1),(1,3,1),(2,3,1),(3,67,1)] true⟩
        (.leaf)
        (.leaf)))
      (.node 72 ⟨1,0,some (.tuple #[.agg #[.int .i64 0,.int .i64 0],.int .i64 0]),.scalar⟩
       (.node 71 ⟨2,16,some (.agg #[.int .i64 0,.int .i64 0]),.agg [(0,3,1),(1,3,1)] true⟩
        (.leaf)
        (.leaf))
       (.node 73 ⟨1,8,some (.nilFunc),.scalar⟩
        (.leaf)
        (.leaf)))))))
  (.node 111 ⟨1,8,some (.nilFunc),.scalar⟩
   (.node 93 ⟨1,8,some (.int .i64 0),.int .i64⟩
    (.node 84 ⟨1,8,some (.pointer none),.ptr 87⟩
     (.node 79 ⟨1,8,some (.nilFunc),.scalar⟩
      (.node 77 ⟨1,8,some (.nilFunc),.scalar⟩
       (.node 76 ⟨1,8,some (.nilFunc),.scalar⟩
        (.node 75 ⟨1,0,some (.tuple #[.agg #[.int .i64 0,.int .i64 0],.int .i64 0]),.scalar⟩
         (.leaf)
         (.leaf))
        (.leaf))
       (.node 78 ⟨1,8,some (.nilFunc),.scalar⟩
        (.leaf)
        (.leaf)))
      (.node 82 ⟨4,80,some (.agg #[.slice none 0 0,.slice none 0 0,.slice none 0 0,.int .i64 0]),.agg [(0,26,4)] true⟩
       (.node 81 ⟨1,8,some (.nilFunc),.scalar⟩
        (.node 80 ⟨1,8,some (.nilFunc),.scalar⟩
         (.leaf)
         (.leaf))
        (.leaf))
       (.node 83 ⟨4,80,some (.agg #[.slice none 0 0,.slice none 0 0,.slice none 0 0,.int .i64 0]),.agg [(0,26,4)] true⟩
        (.leaf)
        (.leaf))))
     (.node 89 ⟨1,8,some (.nilFunc),.scalar⟩
      (.node 87 ⟨21,320,some (.agg #[.slice none 0 0,.slice none 0 0,.slice none 0 0,.int .i64 0,.string ByteArray.empty,.int .i64 0,.int .i64 0,.slice none 0 0,.int .i64 0,.int .i64 0,.int .i64 0,.bool false,.slice none 0 0,.int .i64 0,.slice none 0 0,.slice none 0 0,.int .i64 0,.pointer none,.slice none 0 0,.int .i64 0,.slice none 0 0]),.agg [(0,55,16),(16,3,1),(17,64,1),(18,37,2),(20,85,1)] true⟩
       (.node 86 ⟨21,320,some (.agg #[.slice none 0 0,.slice none 0 0,.slice none 0 0,.int .i64 0,.string ByteArray.empty,.int .i64 0,.int .i64 0,.slice none 0 0,.int .i64 0,.int .i64 0,.int .i64 0,.bool false,.slice none 0 0,.int .i64 0,.slice none 0 0,.slice none 0 0,.int .i64 0,.pointer none,.slice none 0 0,.int .i64 0,.slice none 0 0]),.agg [(0,55,16),(16,3,1),(17,64,1),(18,37,2),(20,85,1)] true⟩
        (.node 85 ⟨1,24,some (.slice none 0 0),.sl 4⟩
         (.leaf)
         (.leaf))
        (.leaf))
       (.node 88 ⟨1,8,some (.nilFunc),.scalar⟩
        (.leaf)
        (.leaf)))
      (.node 91 ⟨1,8,some (.nilFunc),.scalar⟩
       (.node 90 ⟨1,8,some (.nilFunc),.scalar⟩
        (.leaf)
        (.leaf))
       (.node 92 ⟨1,8,some (.nilFunc),.scalar⟩
        (.leaf)
        (.leaf)))))
    (.node 102 ⟨1,0,some (.tuple #[.agg #[.string ByteArray.empty,.int .i64 0,.int .i64 0],.int .i64 0]),.scalar⟩
     (.node 98 ⟨1,8,some (.nilFunc),.scalar⟩
      (.node 96 ⟨1,8,some (.nilFunc),.scalar⟩
       (.node 95 ⟨1,8,some (.nilFunc),.scalar⟩
        (.node 94 ⟨1,0,some (.tuple #[.int .i64 0,.bool false]),.scalar⟩
         (.leaf)
         (.leaf))
        (.leaf))
       (.node 97 ⟨1,8,some (.nilFunc),.scalar⟩
        (.leaf)
        (.leaf)))
      (.node 100 ⟨3,32,some (.agg #[.string ByteArray.empty,.int .i64 0,.int .i64 0]),.agg [(0,9,1),(1,3,1),(2,3,1)] true⟩
       (.node 99 ⟨1,8,some (.nilFunc),.scalar⟩
        (.leaf)
        (.leaf))
       (.node 101 ⟨3,32,some (.agg #[.string ByteArray.empty,.int .i64 0,.int .i64 0]),.agg [(0,9,1),(1,3,1),(2,3,1)] true⟩
        (.leaf)
        (.leaf))))
     (.node 107 ⟨1,8,some (.nilFunc),.scalar⟩
      (.node 105 ⟨1,8,some (.nilFunc),.scalar⟩
       (.node 104 ⟨1,8,some (.nilFunc),.scalar⟩
        (.node 103 ⟨1,8,some (.nilFunc),.scalar⟩
         (.leaf)
         (.leaf))
        (.leaf))
       (.node 106 ⟨1,8,some (.nilFunc),.scalar⟩
        (.leaf)
        (.leaf)))
      (.node 109 ⟨7,64,some (.agg #[.string ByteArray.empty,.int .i64 0,.int .i64 0,.int .i64 0,.int .i64 0,.bool false,.bool false]),.agg [(0,9,1),(1,3,1),(2,42,4),(6,4,1)] true⟩
       (.node 108 ⟨7,64,some (.agg #[.string ByteArray.empty,.int .i64 0,.int .i64 0,.int .i64 0,.int .i64 0,.bool false,.bool false]),.agg [(0,9,1),(1,3,1),(2,42,4),(6,4,1)] true⟩
        (.leaf)
        (.leaf))
       (.node 110 ⟨1,8,some (.nilFunc),.scalar⟩
        (.leaf)
        (.leaf))))))
   (.node 130 ⟨1,8,some (.nilFunc),.scalar⟩
    (.node 121 ⟨1,8,some (.nilFunc),.scalar⟩
     (.node 116 ⟨1,0,some (.tuple #[.slice none 0 0,.int .i64 0]),.scalar⟩
      (.node 114 ⟨1,8,some (.nilFunc),.scalar⟩
       (.node 113 ⟨1,8,some (.nilFunc),.scalar⟩
        (.node 112 ⟨1,8,some (.pointer none),.ptr 46⟩
         (.leaf)
         (.leaf))
        (.leaf))
       (.node 115 ⟨1,8,some (.nilFunc),.scalar⟩
        (.leaf)
        (.leaf)))
      (.node 119 ⟨1,0,some (.tuple #[.bool false,.bool false]),.scalar⟩
       (.node 118 ⟨1,8,some (.nilFunc),.scalar⟩
        (.node 117 ⟨1,8,some (.nilFunc),.scalar⟩
         (.leaf)
         (.leaf))
        (.leaf))
       (.node 120 ⟨1,8,some (.nilFunc),.scalar⟩
        (.leaf)
        (.leaf))))
     (.node 126 ⟨1,8,some (.nilFunc),.scalar⟩
      (.node 124 ⟨1,8,some (.nilFunc),.scalar⟩
       (.node 123 ⟨1,0,some (.tuple #[.agg #[.string ByteArray.empty,.int .i64 0,.int .i64 0],.int .i64 0]),.scalar⟩
        (.node 122 ⟨1,8,some (.nilFunc),.scalar⟩
         (.leaf)
         (.leaf))
        (.leaf))
       (.node 125 ⟨1,8,some (.nilFunc),.scalar⟩
        (.leaf)
        (.leaf)))
      (.node 128 ⟨1,8,some (.nilFunc),.scalar⟩
       (.node 127 ⟨1,8,some (.nilFunc),.scalar⟩
        (.leaf)
        (.leaf))
       (.node 129 ⟨1,8,some (.nilFunc),.scalar⟩
        (.leaf)
        (.leaf)))))
    (.node 139 ⟨4,32,some (.agg #[.int .i64 0,.int .i64 0,.int .i64 0,.int .i64 0]),.agg [(0,61,2),(2,137,2)] true⟩
     (.node 135 ⟨1,8,some (.nilFunc),.scalar⟩
      (.node 133 ⟨1,8,some (.nilFunc),.scalar⟩
       (.node 132 ⟨1,8,some (.nilFunc),.scalar⟩
        (.node 131 ⟨1,8,some (.nilFunc),.scalar⟩
         (.leaf)
         (.leaf))
        (.leaf))
       (.node 134 ⟨1,24,some (.slice none 0 0),.sl 139⟩
        (.leaf)
        (.leaf)))
      (.node 137 ⟨2,16,some (.agg #[.int .i64 0,.int .i64 0]),.agg [(0,3,1),(1,3,1)] true⟩
       (.node 136 ⟨2,16,some (.agg #[.int .i64 0,.int .i64 0]),.agg [(0,3,1),(1,3,1)] true⟩
        (.leaf)
        (.leaf))
       (.node 138 ⟨4,32,some (.agg #[.int .i64 0,.int .i64 0,.int .i64 0,.int .i64 0]),.agg [(0,61,2),(2,137,2)] true⟩
        (.leaf)
        (.leaf))))
     (.node 144 ⟨1,8,some (.nilFunc),.scalar⟩
      (.node 142 ⟨1,8,some (.nilFunc),.scalar⟩
       (.node 141 ⟨1,8,some (.nilFunc),.scalar⟩
        (.node 140 ⟨1,8,some (.nilFunc),.scalar⟩
         (.leaf)
         (.leaf))
        (.leaf))
       (.node 143 ⟨1,8,some (.nilFunc),.scalar⟩
        (.leaf)
        (.leaf)))
      (.node 146 ⟨1,8,some (.nilFunc),.scalar⟩
       (.node 145 ⟨1,0,some (.tuple #[.agg #[.int .i64 0,.int .i64 0,.int .i64 0,.bool false],.bool false]),.scalar⟩
        (.leaf)
        (.leaf))
       (.node 147 ⟨1,8,some (.int .i64 0),.int .i64⟩
        (.leaf)
        (.leaf))))))))
 (.node 222 ⟨1,0,some (.tuple #[.int .i64 0,.bool false]),.scalar⟩
  (.node 185 ⟨1,8,some (.nilFunc),.scalar⟩
   (.node 167 ⟨1,8,some (.nilFunc),.scalar⟩
    (.node 158 ⟨1,8,some (.nilFunc),.scalar⟩
     (.node 153 ⟨1,8,some (.nilFunc),.scalar⟩
      (.node 151 ⟨24,344,some (.agg #[.slice none 0 0,.slice none 0 0,.slice none 0 0,.int .i64 0,.string ByteArray.empty,.int .i64 0,.int .i64 0,.slice none 0 0,.int .i64 0,.int .i64 0,.int .i64 0,.bool false,.slice none 0 0,.int .i64 0,.slice none 0 0,.slice none 0 0,.slice none 0 0,.int .i64 0,.int .i64 0,.int .i64 0,.int .i64 0,.int .i64 0,.bool false,.slice none 0 0]),.agg [(0,26,4),(4,46,12),(16,40,1),(17,49,6),(23,40,1)] true⟩
       (.node 150 ⟨24,344,some (.agg #[.slice none 0 0,.slice none 0 0,.slice none 0 0,.int .i64 0,.string ByteArray.empty,.int .i64 0,.int .i64 0,.slice none 0 0,.int .i64 0,.int .i64 0,.int .i64 0,.bool false,.slice none 0 0,.int .i64 0,.slice none 0 0,.slice none 0 0,.slice none 0 0,.int .i64 0,.int .i64 0,.int .i64 0,.int .i64 0,.int .i64 0,.bool false,.slice none 0 0]),.agg [(0,26,4),(4,46,12),(16,40,1),(17,49,6),(23,40,1)] true⟩
        (.node 149 ⟨1,8,some (.pointer none),.ptr 151⟩
         (.leaf)
         (.leaf))
        (.leaf))
       (.node 152 ⟨1,8,some (.nilFunc),.scalar⟩
        (.leaf)
        (.leaf)))
      (.node 156 ⟨1,8,some (.nilFunc),.scalar⟩
       (.node 155 ⟨1,8,some (.nilFunc),.scalar⟩
        (.node 154 ⟨1,8,some (.nilFunc),.scalar⟩
         (.leaf)
         (.leaf))
        (.leaf))
       (.node 157 ⟨1,8,some (.nilFunc),.scalar⟩
        (.leaf)
        (.leaf))))
     (.node 163 ⟨5,88,some (.agg #[.pointer none,.slice none 0 0,.slice none 0 0,.slice none 0 0,.int .i64 0]),.agg [(0,159,1),(1,26,4)] true⟩
      (.node 161 ⟨1,24,some (.agg #[.slice none 0 0]),.agg [(0,67,1)] true⟩
       (.node 160 ⟨1,24,some (.agg #[.slice none 0 0]),.agg [(0,67,1)] true⟩
        (.node 159 ⟨1,8,some (.pointer none),.ptr 161⟩
         (.leaf)
         (.leaf))
        (.leaf))
       (.node 162 ⟨5,88,some (.agg #[.pointer none,.slice none 0 0,.slice none 0 0,.slice none 0 0,.int .i64 0]),.agg [(0,159,1),(1,26,4)] true⟩
        (.leaf)
        (.leaf)))
      (.node 165 ⟨1,8,some (.nilFunc),.scalar⟩
       (.node 164 ⟨1,8,some (.nilFunc),.scalar⟩
        (.leaf)
        (.leaf))
       (.node 166 ⟨1,8,some (.nilFunc),.scalar⟩
        (.leaf)
        (.leaf)))))
    (.node 176 ⟨1,8,some (.nilFunc),.scalar⟩
     (.node 172 ⟨1,8,some (.nilFunc),.scalar⟩
      (.node 170 ⟨1,8,some (.nilFunc),.scalar⟩
       (.node 169 ⟨1,8,some (.nilFunc),.scalar⟩
        (.node 168 ⟨1,8,some (.nilFunc),.scalar⟩
         (.leaf)
         (.leaf))
        (.leaf))
       (.node 171 ⟨1,8,some (.nilFunc),.scalar⟩
        (.leaf)
        (.leaf)))
      (.node 174 ⟨1,8,some (.nilFunc),.scalar⟩
       (.node 173 ⟨1,8,some (.nilFunc),.scalar⟩
        (.leaf)
        (.leaf))
       (.node 175 ⟨1,8,some (.nilFunc),.scalar⟩
        (.leaf)
        (.leaf))))
     (.node 181 ⟨1,8,some (.nilFunc),.scalar⟩
      (.node 179 ⟨1,8,some (.nilFunc),.scalar⟩
       (.node 178 ⟨1,8,some (.nilFunc),.scalar⟩
        (.node 177 ⟨1,8,some (.nilFunc),.scalar⟩
         (.leaf)
         (.leaf))
        (.leaf))
       (.node 180 ⟨1,8,some (.nilFunc),.scalar⟩
        (.leaf)
        (.leaf)))
      (.node 183 ⟨1,8,some (.nilFunc),.scalar⟩
       (.node 182 ⟨1,8,some (.nilFunc),.scalar⟩
        (.leaf)
        (.leaf))
       (.node 184 ⟨1,0,some (.tuple #[.agg #[.int .i64 0,.int .i64 0,.int .i64 0,.bool false],.int .i64 0]),.scalar⟩
        (.leaf)
        (.leaf))))))
   (.node 204 ⟨1,8,some (.nilFunc),.scalar⟩
    (.node 195 ⟨1,8,some (.nilFunc),.scalar⟩
     (.node 190 ⟨1,8,some (.nilFunc),.scalar⟩
      (.node 188 ⟨1,8,some (.map none),.map 3 3⟩
       (.node 187 ⟨1,8,some (.nilFunc),.scalar⟩
        (.node 186 ⟨1,8,some (.nilFunc),.scalar⟩
         (.leaf)
         (.leaf))
        (.leaf))
       (.node 189 ⟨1,8,some (.nilFunc),.scalar⟩
        (.leaf)
        (.leaf)))
      (.node 193 ⟨1,8,some (.nilFunc),.scalar⟩
       (.node 192 ⟨1,8,some (.nilFunc),.scalar⟩
        (.node 191 ⟨1,8,some (.nilFunc),.scalar⟩
         (.leaf)
         (.leaf))
        (.leaf))
       (.node 194 ⟨1,8,some (.nilFunc),.scalar⟩
        (.leaf)
        (.leaf))))
     (.node 200 ⟨1,8,some (.nilFunc),.scalar⟩
      (.node 198 ⟨1,8,some (.nilFunc),.scalar⟩
       (.node 197 ⟨1,8,some (.nilFunc),.scalar⟩
        (.node 196 ⟨1,8,some (.nilFunc),.scalar⟩
         (.leaf)
         (.leaf))
        (.leaf))
       (.node 199 ⟨1,8,some (.nilFunc),.scalar⟩
        (.leaf)
        (.leaf)))
      (.node 202 ⟨1,8,some (.nilFunc),.scalar⟩
       (.node 201 ⟨1,8,some (.nilFunc),.scalar⟩
        (.leaf)
        (.leaf))
       (.node 203 ⟨1,8,some (.nilFunc),.scalar⟩
        (.leaf)
        (.leaf)))))
    (.node 213 ⟨1,0,some (.tuple #[.slice none 0 0,.slice none 0 0,.int .i64 0]),.scalar⟩
     (.node 209 ⟨1,8,some (.int .u64 0),.int .u64⟩
      (.node 207 ⟨1,8,some (.nilFunc),.scalar⟩
       (.node 206 ⟨1,8,some (.nilFunc),.scalar⟩
        (.node 205 ⟨4,32,some (.agg #[.int .i64 0,.int .i64 0,.int .i64 0,.bool false]),.agg [(0,3,1),(1,3,1),(2,3,1),(3,4,1)] true⟩
         (.leaf)
         (.leaf))
        (.leaf))
       (.node 208 ⟨1,8,some (.nilFunc),.scalar⟩
        (.leaf)
        (.leaf)))
      (.node 211 ⟨1,8,some (.nilFunc),.scalar⟩
       (.node 210 ⟨1,8,some (.nilFunc),.scalar⟩
        (.leaf)
        (.leaf))
       (.node 212 ⟨1,8,some (.nilFunc),.scalar⟩
        (.leaf)
        (.leaf))))
     (.node 218 ⟨1,0,some (.tuple #[.int .i64 0,.int .i64 0]),.scalar⟩
      (.node 216 ⟨1,8,some (.nilFunc),.scalar⟩
       (.node 215 ⟨1,8,some (.nilFunc),.scalar⟩
        (.node 214 ⟨1,8,some (.nilFunc),.scalar⟩
         (.leaf)
         (.leaf))
        (.leaf))
       (.node 217 ⟨1,8,some (.int .i64 0),.int .i64⟩
        (.leaf)
        (.leaf)))
      (.node 220 ⟨1,8,some (.nilFunc),.scalar⟩
       (.node 219 ⟨1,8,some (.nilFunc),.scalar⟩
        (.leaf)
        (.leaf))
       (.node 221 ⟨1,8,some (.nilFunc),.scalar⟩
        (.leaf)
        (.leaf)))))))
  (.node 259 ⟨1,8,some (.nilFunc),.scalar⟩
   (.node 241 ⟨1,0,some (.tuple #[.slice none 0 0,.int .i64 0]),.scalar⟩
    (.node 232 ⟨1,8,some (.nilFunc),.scalar⟩
     (.node 227 ⟨1,8,some (.int .u64 0),.int .u64⟩
      (.node 225 ⟨1,4,some (.int .u32 0),.int .u32⟩
       (.node 224 ⟨1,8,some (.nilFunc),.scalar⟩
        (.node 223 ⟨1,8,some (.nilFunc),.scalar⟩
         (.leaf)
         (.leaf))
        (.leaf))
       (.node 226 ⟨1,8,some (.nilFunc),.scalar⟩
        (.leaf)
        (.leaf)))
      (.node 230 ⟨1,8,some (.nilFunc),.scalar⟩
       (.node 229 ⟨1,8,some (.nilFunc),.scalar⟩
        (.node 228 ⟨1,8,some (.nilFunc),.scalar⟩
         (.leaf)
         (.leaf))
        (.leaf))
       (.node 231 ⟨1,8,some (.nilFunc),.scalar⟩
        (.leaf)
        (.leaf))))
     (.node 237 ⟨1,8,some (.pointer none),.ptr 3⟩
      (.node 235 ⟨1,8,some (.nilFunc),.scalar⟩
       (.node 234 ⟨1,8,some (.nilFunc),.scalar⟩
        (.node 233 ⟨1,8,some (.int .u64 0),.int .u64⟩
         (.leaf)
         (.leaf))
        (.leaf))
       (.node 236 ⟨1,8,some (.nilFunc),.scalar⟩
        (.leaf)
        (.leaf)))
      (.node 239 ⟨1,8,some (.nilFunc),.scalar⟩
       (.node 238 ⟨1,8,some (.nilFunc),.scalar⟩
        (.leaf)
        (.leaf))
       (.node 240 ⟨1,24,some (.slice none 0 0),.sl 5⟩
        (.leaf)
        (.leaf)))))
    (.node 250 ⟨1,8,some (.nilFunc),.scalar⟩
     (.node 246 ⟨1,8,some (.nilFunc),.scalar⟩
      (.node 244 ⟨1,8,some (.nilFunc),.scalar⟩
       (.node 243 ⟨1,8,some (.nilFunc),.scalar⟩
        (.node 242 ⟨1,8,some (.nilFunc),.scalar⟩
         (.leaf)
         (.leaf))
        (.leaf))
       (.node 245 ⟨1,8,some (.nilFunc),.scalar⟩
        (.leaf)
        (.leaf)))
      (.node 248 ⟨1,8,some (.pointer none),.ptr 233⟩
       (.node 247 ⟨1,8,some (.nilFunc),.scalar⟩
        (.leaf)
        (.leaf))
       (.node 249 ⟨1,8,some (.nilFunc),.scalar⟩
        (.leaf)
        (.leaf))))
     (.node 255 ⟨1,8,some (.nilFunc),.scalar⟩
      (.node 253 ⟨1,8,some (.nilFunc),.scalar⟩
       (.node 252 ⟨1,8,some (.nilFunc),.scalar⟩
        (.node 251 ⟨1,8,some (.nilFunc),.scalar⟩
         (.leaf)
         (.leaf))
        (.leaf))
       (.node 254 ⟨1,8,some (.nilFunc),.scalar⟩
        (.leaf)
        (.leaf)))
      (.node 257 ⟨1,0,some (.tuple #[.int .i64 0,.int .i64 0]),.scalar⟩
       (.node 256 ⟨1,8,some (.nilFunc),.scalar⟩
        (.leaf)
        (.leaf))
       (.node 258 ⟨1,8,some (.nilFunc),.scalar⟩
        (.leaf)
        (.leaf))))))
   (.node 278 ⟨1,0,some (.tuple #[.int .u64 0,.int .u64 0]),.scalar⟩
    (.node 269 ⟨1,0,some (.tuple #[.int .u64 0,.int .u64 0]),.scalar⟩
     (.node 264 ⟨1,8,some (.nilFunc),.scalar⟩
      (.node 262 ⟨1,8,some (.nilFunc),.scalar⟩
       (.node 261 ⟨1,8,some (.nilFunc),.scalar⟩
        (.node 260 ⟨1,8,some (.nilFunc),.scalar⟩
         (.leaf)
         (.leaf))
        (.leaf))
       (.node 263 ⟨1,8,some (.nilFunc),.scalar⟩
        (.leaf)
        (.leaf)))
      (.node 267 ⟨1,8,some (.nilFunc),.scalar⟩
       (.node 266 ⟨1,8,some (.nilFunc),.scalar⟩
        (.node 265 ⟨1,8,some (.nilFunc),.scalar⟩
         (.leaf)
         (.leaf))
        (.leaf))
       (.node 268 ⟨1,8,some (.nilFunc),.scalar⟩
        (.leaf)
        (.leaf))))
     (.node 274 ⟨1,8,some (.nilFunc),.scalar⟩
      (.node 272 ⟨1,8,some (.nilFunc),.scalar⟩
       (.node 271 ⟨5,20,some (.agg #[.int .u32 0,.int .u32 0,.int .u32 0,.int .u32 0,.int .u32 0]),.arr 5 225⟩
        (.node 270 ⟨1,8,some (.nilFunc),.scalar⟩
         (.leaf)
         (.leaf))
        (.leaf))
       (.node 273 ⟨1,8,some (.nilFunc),.scalar⟩
        (.leaf)
        (.leaf)))
      (.node 276 ⟨1,0,some (.tuple #[.int .u32 0,.int .u32 0]),.scalar⟩
       (.node 275 ⟨1,8,some (.nilFunc),.scalar⟩
        (.leaf)
        (.leaf))
       (.node 277 ⟨1,8,some (.nilFunc),.scalar⟩
        (.leaf)
        (.leaf)))))
    (.node 287 ⟨1,1,some (.int .u8 0),.int .u8⟩
     (.node 283 ⟨0,0,some (.agg #[]),.arr 0 16⟩
      (.node 281 ⟨4,40,some (.agg #[.pointer none,.pointer none,.pointer none,.string ByteArray.empty]),.agg [(0,17,1),(1,17,1),(2,17,1),(3,9,1)] false⟩
       (.node 280 ⟨1,8,some (.nilFunc),.scalar⟩
        (.node 279 ⟨1,8,some (.nilFunc),.scalar⟩
         (.leaf)
         (.leaf))
        (.leaf))
       (.node 282 ⟨4,40,some (.agg #[.pointer none,.pointer none,.pointer none,.string ByteArray.empty]),.agg [(0,17,1),(1,17,1),(2,17,1),(3,9,1)] false⟩
        (.leaf)
        (.leaf)))
      (.node 285 ⟨0,0,some (.agg #[]),.agg [(0,283,0)] false⟩
       (.node 284 ⟨0,0,some (.agg #[]),.agg [(0,283,0)] false⟩
        (.leaf)
        (.leaf))
       (.node 286 ⟨1,8,some (.nilFunc),.scalar⟩
        (.leaf)
        (.leaf))))
     (.node 292 ⟨1,4,some (.int .i32 0),.int .i32⟩
      (.node 290 ⟨1,8,some (.pointer none),.ptr 5⟩
       (.node 289 ⟨1,8,some (.nilFunc),.scalar⟩
        (.node 288 ⟨1,1,some (.int .u8 0),.int .u8⟩
         (.leaf)
         (.leaf))
        (.leaf))
       (.node 291 ⟨1,4,some (.int .i32 0),.int .i32⟩
        (.leaf)
        (.leaf)))
      (.node 294 ⟨11,48,some (.agg #[.int .u64 0,.int .u64 0,.int .u32 0,.int .u8 0,.int .u8 0,.int .u8 0,.int .u8 0,.nilFunc,.pointer none,.int .i32 0,.int .i32 0]),.agg [(0,12,1),(1,12,1),(2,225,1),(3,287,1),(4,5,1),(5,5,1),(6,288,1),(7,289,1),(8,290,1),(9,291,1),(10,292,1)] false⟩
       (.node 293 ⟨11,48,some (.agg #[.int .u64 0,.int .u64 0,.int .u32 0,.int .u8 0,.int .u8 0,.int .u8 0,.int .u8 0,.nilFunc,.pointer none,.int .i32 0,.int .i32 0]),.agg [(0,12,1),(1,12,1),(2,225,1),(3,287,1),(4,5,1),(5,5,1),(6,288,1),(7,289,1),(8,290,1),(9,291,1),(10,292,1)] false⟩
        (.leaf)
        (.leaf))
       (.node 295 ⟨1,8,some (.pointer none),.scalar⟩
        (.leaf)
        (.leaf))))))))
theorem zh:yB Tryz.prog tb:=zq9 (by kernel_rfl)
end Go.Cg
